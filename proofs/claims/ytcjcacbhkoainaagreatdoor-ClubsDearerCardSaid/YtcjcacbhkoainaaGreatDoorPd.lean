/- Texts Dp17, Dp18, Dc0, Dc1, Dc2, Dc3 in one. -/
import Derived.Test.YtcjcacbhkoainaaGreatDoorPc
import Derived.Test.YtcjcacbhkoainaaGreatDoorQa
/- Beds, plain: Check of whatever there is. -/
set_option linter.constructorNameAsVariable false
set_option linter.unusedSimpArgs false
set_option linter.unusedVariables false
set_option linter.unusedSectionVars false
namespace Go.Proofs.YtcjcacbhkoainaaGreatDoor
open Go Go.Proofs Go.RowKit
set_option maxHeartbeats 1000000
def quh(x y:Msg):Bool:=decide (y.2.1=x.2.1)&&decide (y.1=x.1)
def adjK:List Msg→Bool
 | x::y::l=>quh x y||adjK (y::l)
 | _=>false
theorem qxa:∀(q:List Msg),adjK q=true↔∃i,∃h:i+1<q.length,quh q[i] q[i+1]=true
 | []=>by simp[adjK]
 | [x]=>by simp[adjK]
 | x::y::l=>by
  unfold adjK
  rw[Bool.or_eq_true,qxa (y::l)]
  constructor
  ·rintro (h | ⟨i,h1,h2⟩)
   ·exact ⟨0,by simp,h⟩
   ·exact ⟨i+1,by simpa using h1,by simpa using h2⟩
  ·rintro ⟨i,h1,h2⟩
   cases i with
   | zero=>exact .inl h2
   | succ i=>exact .inr ⟨i,by simpa using h1,by simpa using h2⟩
theorem qCf(n:Nat)(q:List Msg)(hl:q.length≤1000):∀(B A:List Msg) (p:Msg) (n':Nat),q=A++p::B→B.length<n' →
  qb n' (qlT n) (q,(q,((q.length:Int),(((A.length+1:Nat):Int),()))))=some (cond (adjK (p::B)) (.inr (true,())) (.inl ())):=by
 intro B
 induction B with
 | nil =>
  intro A p n' hq hn
  obtain ⟨n',rfl⟩:∃m,n'=m+1:=⟨n'-1,by omega⟩
  have e:A.length+1=q.length:=by rw[hq];simp
  rw[qx,qfX]
  simp only[e,qQ,cond_false]
  rfl
 | cons y B ih =>
  intro A p n' hq hn
  simp only[List.length_cons] at hn
  obtain ⟨n',rfl⟩:∃m,n'=m+1:=⟨n'-1,by omega⟩
  have e:A.length+1<q.length:=by rw[hq];simp
  have e1:q[A.length+1]?=some y:=by rw[hq];exact app1 _ _ _ _
  have e0:q[A.length]?=some p:=by rw[hq];exact app0 _ _ _ _
  have ih':=ih (A++[p]) y n' (by rw[hq];simp) (by omega)
  rw[List.length_append,List.length_singleton] at ih'
  rw[qx,qfX]
  simp only[qK e,cond_true,qiO,e1,qqn,qoy (show A.length<9223372036854775807 by omega),e0,Option.bind_some,qy (show A.length+1<9223372036854775807 by omega)]
  unfold adjK quh
  by_cases h1:y.2.1=p.2.1
  ·rw[qcv h1]
   by_cases h2:y.1=p.1
   ·rw[qcv h2];simp[h1,h2]
   ·rw[qe5 h2];simp only[cond_true,cond_false,h2,decide_false,Bool.and_false,Bool.false_or];exact ih'
  ·rw[qe5 h1];simp only[cond_false,h1,decide_false,Bool.false_and,Bool.false_or];exact ih'
theorem qCg(n:Nat)(q:List Msg)(hl:q.length≤1000)(hn:2000≤n):qnE n (q,())=some (adjK q,()):=by
 rw[qq1]
 obtain ⟨n,rfl⟩:∃m,n=m+1:=⟨n-1,by omega⟩
 cases q with
 | nil =>
  rw[qx,qfX]
  rfl
 | cons p B =>
  have h:=qCf (n+1) (p::B) hl B [] p n rfl (by simp at hl;omega)
  simp only[List.length_nil,Nat.zero_add] at h
  have e:(0:Int)<((p::B).length:Int):=by rw[List.length_cons];omega
  rw[qx,qfX]
  simp only[show iLt 0 ((p::B).length:Int)=true from decide_eq_true e,cond_true,qvB,Option.bind_some,show iGt 0 0=false from rfl,cond_false]
  rw[show iW (iAdd 0 1)=((1:Nat):Int) from rfl,h]
  cases adjK (p::B)<;>rfl
theorem qA0{l:List Msg}(hk:∀m,m∈l→m.1=1∨m.1=2):adjK (qe6 l)=qij l:=by
 have hs:(qe6 l).Pairwise (fun a b=>key1 a≤key1 b):=by
  have h1:=qzf (fun x y=>decide (cmpM x y<0)) key1 l fun x y hx hy=>by
   have:=qDS (hk x hx) (hk y hy)
   simpa using this
  exact h1.sublist (qzg _)
 have hadj:=qug (qjz (fun x y=>decide (cmpM x y<0)) l)
 have hkd:∀m,m∈qe6 l→m.1=1∨m.1=2:=fun m hm=>hk m (qi8.1 hm)
 cases hc:qij l with
 | false =>
  rw[← Bool.not_eq_true]
  intro h
  obtain ⟨i,h1,h2⟩:=(qxa _).1 h
  unfold quh at h2
  simp only[Bool.and_eq_true,decide_eq_true_eq] at h2
  exact qw5 _ hadj i h1 (qnK hc _ _ (qi8.1 (List.getElem_mem _)) (qi8.1 (List.getElem_mem _)) h2.1 h2.2)
 | true =>
  have hne:¬∀x y,x∈l→y∈l→x.2.1=y.2.1→x.1=y.1→x=y:=fun h=>by rw[qxR h] at hc;cases hc
  have:∃x y,x∈l∧y∈l∧x.2.1=y.2.1∧x.1=y.1∧x≠y:=by
   refine Classical.byContradiction fun h=>hne fun x y hx hy h1 h2=>Classical.byContradiction fun h3=>h ⟨x,y,hx,hy,h1,h2,h3⟩
  obtain ⟨x,y,hx,hy,h1,h2,h3⟩:=this
  have key:∀i j (hi:i<(qe6 l).length) (hj:j<(qe6 l).length),i<j→key1 (qe6 l)[i]=key1 (qe6 l)[j]→adjK (qe6 l)=true:=fun i j hi hj hij e=>by
   rw[List.pairwise_iff_getElem] at hs
   have e1:=hs i (i+1) hi (by omega) (by omega)
   have e2:key1 (qe6 l)[i+1]≤key1 (qe6 l)[j]:=by
    rcases Nat.lt_or_ge (i+1) j with h | h
    ·exact hs (i+1) j (by omega) hj h
    ·have:j=i+1:=by omega
     subst this;exact Int.le_refl _
   refine (qxa _).2 ⟨i,by omega,?_⟩
   have k1:=hkd (qe6 l)[i] (List.getElem_mem _)
   have k2:=hkd (qe6 l)[i+1] (List.getElem_mem _)
   unfold key1 at e e1 e2
   unfold quh
   simp only[Bool.and_eq_true,decide_eq_true_eq]
   omega
  obtain ⟨i,hi,ei⟩:=List.mem_iff_getElem.1 (qi8.2 hx)
  obtain ⟨j,hj,ej⟩:=List.mem_iff_getElem.1 (qi8.2 hy)
  have ek:key1 (qe6 l)[i]=key1 (qe6 l)[j]:=by rw[ei,ej];unfold key1;omega
  rcases Nat.lt_trichotomy i j with h | h | h
  ·exact key i j hi hj h ek
  ·subst h;exact absurd (ei.symm.trans ej) h3
  ·exact key j i hj hi h ek.symm
structure Near (c:Chn) (l:List Msg):Prop where
 st:∀m,m∈l→m.2.2.2.2.length≤20
 hu:c.1.length≤20
 ln:l.length≤9∨(40<l.length∧l.length≤60)
theorem qCh{c:Chn}{l:List Msg}(h:farB c l=false):Near c l:=by
 obtain ⟨h1,h2⟩:=qAV h
 refine ⟨h1,h2,?_⟩
 unfold farB at h
 simp only[Bool.or_eq_false_iff,Bool.and_eq_false_iff,decide_eq_false_iff_not] at h
 omega
theorem qCi(n:Nat)(c:Chn)(l:List Msg)(V:Near c l)(hn:2000≤n):qia n (c,(l,()))=some (chkN c l,()):=by
 have hu:=V.hu
 have hs:∀z,z∈l→z.2.2.2.2.length≤1000:=fun z hz=>by have:=V.st z hz;omega
 rw[qq2,qEs n c (by omega) hn]
 unfold chkN
 cases hc:qdm c with
 | false=>rfl
 | true =>
  obtain ⟨h1,h2,h3,h4⟩:=qq8 hc
  simp only[Option.bind_some,Bool.not_true,cond_false,cond_true]
  rw[qlG]
  by_cases hl:l.length≤40
  ·have hl9:l.length≤9:=by rcases V.ln with h | h<;>omega
   obtain ⟨u,hu⟩:=qr7 n c l (by omega) (by omega) (by omega) (by omega) hs hn
   have c1:iGt (l.length:Int) 40=false:=decide_eq_false (by omega)
   simp only[c1,cond_false,hu,Option.bind_some,hl,decide_true,Bool.and_true]
   rw[show (l.any fun m=>!mesB c m) = !l.all (mesB c) by simp[List.all_eq_not_any_not]]
   cases hm:l.all (mesB c) with
   | false=>rfl
   | true =>
    have hk:∀m,m∈l→m.1=1∨m.1=2:=fun m h=>by rw[List.all_eq_true] at hm;exact (qw9 (hm m h)).1
    simp only[Bool.not_true,cond_false,qrn n l (by omega) hs hn,Option.bind_some,qCg n (qe6 l) (by have:=qq7 l;omega) hn,qA0 hk,cond_true]
    cases qij l<;>rfl
  ·have c1:iGt (l.length:Int) 40=true:=decide_eq_true (by omega)
   simp only[c1,cond_true,hl,decide_false,Bool.and_false,cond_false]
   rfl
theorem qoz{nh nn:Int}:∀{ss:List Stay} {last:Int},qii nh nn last ss=true→-1≤last→∀s,s∈ss→(0≤s.1∧s.1≤nh-1)∧0≤s.2.1∧s.2.2<nn∧s.2.1≤s.2.2
 | [],_,_,_,s,hs=>by cases hs
 | z::ss,last,h,hl,s,hs=>by
  unfold qii at h
  simp only[Bool.and_eq_true,qbd,decide_eq_true_eq] at h
  rcases List.mem_cons.1 hs with rfl | hs
  ·omega
  ·exact qoz h.2 (by omega) s hs
structure RefOk (c:Chn) (m:Msg):Prop where
 ok:MsgOk c m
 st:qii c.1.length c.2 (-1) m.2.2.2.2=true
 ln:m.2.2.2.2.length≤20
abbrev qjA:=Int×(Int×Int)
abbrev qlY:=Int×Int
abbrev Work:=Int×(Int×Int)
abbrev Uni:=Chn×(List Msg×(Int×(List Int×(List (List Int)×(List qjA×(List qlY×(List Work×(Int×(Int×(Int×Int))))))))))
theorem qhH(n:Nat)(a lo hi:Int):qB n (a,(lo,(hi,())))=some (wi a lo hi,()):=by
 rw[qqk]
 show cond (iGe a lo) (some ((iLe a hi),())) (some (false,()))=_
 unfold wi iGe iLe
 by_cases h:a≥lo
 ·rw[decide_eq_true h];rfl
 ·rw[decide_eq_false h];rfl
def shB(l:List Int):Bool:=l.all (fun x=>wi x 0 100)&&decide (l.sum=100)
theorem qFN{l:List Int}(h:∀x,x∈l→0≤x∧x≤100):0≤l.sum∧l.sum≤100*l.length:=by
 induction l with
 | nil=>simp
 | cons x l ih =>
  have h1:=h x List.mem_cons_self
  have h2:=ih fun y hy=>h y (List.mem_cons_of_mem _ hy)
  simp only[List.sum_cons,List.length_cons]
  omega
theorem qzk(n:Nat)(l:List Int)(hl:l.length≤1000)(hn:2000≤n):qig n (l,())=some (shB l&&wi (l.length:Int) 1 6,()):=by
 rw[qo1]
 have key:∀(B A:List Int) (n':Nat),l=A++B→(∀x,x∈A→0≤x∧x≤100)→B.length<n'→qb n' (qhl n) (l,(A.sum,((A.length:Int),())))=some (cond (B.all fun x=>wi x 0 100) (.inl (l,(l.sum,()))) (.inr (false,()))):=by
  intro B
  induction B with
  | nil =>
   intro A n' hq hA hn'
   obtain ⟨n',rfl⟩:∃m,n'=m+1:=⟨n'-1,by omega⟩
   rw[List.append_nil] at hq
   rw[qx,qjp]
   simp only[hq,qQ,cond_false]
   rfl
  | cons x B ih =>
   intro A n' hq hA hn'
   obtain ⟨n',rfl⟩:∃m,n'=m+1:=⟨n'-1,by omega⟩
   have hAl:A.length<l.length:=by rw[hq];simp
   have hx:l[A.length]?=some x:=by rw[hq];simp
   have hsum:=qFN hA
   rw[qx,qjp]
   simp only[qK hAl,cond_true,qiO,hx,Option.bind_some,qhH]
   rw[List.all_cons]
   cases hw:wi x 0 100 with
   | false=>rfl
   | true =>
    have hx2:=qbd.1 hw
    simp only[Bool.not_true,cond_false,Bool.true_and]
    rw[show iW (iAdd A.sum x)=(A++[x]).sum by rw[qZ (by unfold iAdd;omega) (by unfold iAdd;omega)];simp,qy (by omega),show A.length+1=(A++[x]).length by simp]
    exact ih (A++[x]) n' (by rw[hq];simp) (fun y hy=>by
     rcases List.mem_append.1 hy with hy | hy
     ·exact hA y hy
     ·rw[List.mem_singleton] at hy;rw[hy];exact hx2) (by simp at hn';omega)
 have h:=key l [] n rfl (fun x hx=>by cases hx) (by omega)
 show Option.bind (qb n _ (l,((([]:List Int).sum),((([]:List Int).length:Int),())))) _=_
 rw[h]
 unfold shB
 cases l.all fun x=>wi x 0 100 with
 | false=>rfl
 | true =>
  simp only[cond_true,Option.bind_some,Sum.elim_inl,Bool.true_and,qhH,Int.ofNat_eq_natCast]
  by_cases e:l.sum=100
  ·rw[qcv e,decide_eq_true e];rfl
  ·rw[qe5 e,decide_eq_false e];rfl
def qld(u:Uni)(x:Int):Bool:=wi x 0 (u.2.2.1-1)
theorem qxS(n:Nat)(u:Uni)(x:Int)(hc:-1000≤u.2.2.1∧u.2.2.1≤1000):qfx n (u,(x,()))=some (qld u x,()):=by
 rw[qql]
 show Option.bind (qB n (x,((0:Int),(iW (iSub u.2.2.1 1),())))) _=_
 rw[qZ (by unfold iSub;omega) (by unfold iSub;omega),qhH]
 rfl
def qlJ(u:Uni)(g:qjA):Bool:=wi g.1 0 99&&(wi g.2.1 (-1) (u.2.2.1-1)&&wi g.2.2 0 20)
def qg9(u:Uni)(l:List qjA):Bool:=l.all (qlJ u)&&decide ((l.map (·.1)).Nodup)
theorem qx7(n:Nat)(u:Uni)(i:Nat)(g:qjA)(hi:i<u.2.2.2.2.2.1.length)(hg:u.2.2.2.2.2.1[i]=g)(hl:u.2.2.2.2.2.1.length≤1000)(hn:2000≤n) :
  qb n (qfm n) ((i:Int),((0:Int),(u,(g,()))))=some (cond ((u.2.2.2.2.2.1.take i).any fun x=>decide (x.1=g.1)) (.inr (false,())) (.inl ((i:Int),(u,())))):=by
 have hti:(u.2.2.2.2.2.1.take i).length=i:=by simp;omega
 exact qlI (step:=qfm n) (u.2.2.2.2.2.1.take i) (fun k=>((i:Int),((k:Int),(u,(g,()))))) (fun x=>decide (x.1=g.1)) (.inr (false,())) (.inl ((i:Int),(u,()))) (fun rec k hk=>by
  have hk':k<i:=by omega
  rw[qjq]
  simp only[qK hk',cond_true,qS _ (show k<u.2.2.2.2.2.1.length by omega),Option.bind_some,qy (show k<9223372036854775807 by omega),List.getElem_take]
  by_cases e:(u.2.2.2.2.2.1[k]).1=g.1
  ·rw[qcv e,decide_eq_true e]
  ·rw[qe5 e,decide_eq_false e]) (fun rec=>by
  rw[hti,qjq]
  simp only[qQ,cond_false]) (n:=n) (by omega)
theorem qzl(n:Nat)(u:Uni)(hc:-1000≤u.2.2.1∧u.2.2.1≤1000)(hl:u.2.2.2.2.2.1.length≤1000)(hn:2000≤n):qih n (u,())=some (qg9 u u.2.2.2.2.2.1&&decide (u.2.2.2.2.2.1.length≤40),()):=by
 rw[qo2]
 obtain ⟨l,hL⟩:∃l,l=u.2.2.2.2.2.1:=⟨_,rfl⟩
 have key:∀(B A:List qjA) (n':Nat),l=A++B→(A.map (·.1)).Nodup→B.length<n'→qb n' (qhm n) ((A.length:Int),(u,()))=some (cond (B.all (qlJ u)&&decide ((l.map (·.1)).Nodup)) (.inl (u,())) (.inr (false,()))):=by
  intro B
  induction B with
  | nil =>
   intro A n' hq hA hn'
   obtain ⟨n',rfl⟩:∃m,n'=m+1:=⟨n'-1,by omega⟩
   rw[List.append_nil] at hq
   rw[qx,qjr]
   simp only[← hL,hq,qQ,cond_false,List.all_nil,Bool.true_and,decide_eq_true hA]
   rfl
  | cons x B ih =>
   intro A n' hq hA hn'
   obtain ⟨n',rfl⟩:∃m,n'=m+1:=⟨n'-1,by omega⟩
   have hAl:A.length<l.length:=by rw[hq];simp
   have hx:l[A.length]?=some x:=by rw[hq];simp
   have hxe:l[A.length]=x:=by rw[List.getElem?_eq_getElem hAl] at hx;injection hx
   have htk:l.take A.length=A:=by rw[hq];simp
   have hll:l.length≤1000:=by rw[hL];exact hl
   rw[qx,qjr]
   simp only[← hL,qK hAl,cond_true,qiO,hx,Option.bind_some,qhH,qZ (n:=iSub u.2.2.1 1) (by unfold iSub;omega) (by unfold iSub;omega),show (Int.negSucc 0) = -1 from rfl]
   rw[List.all_cons]
   have h1:=qx7 n u A.length x (by rw[← hL];exact hAl) (by subst hL;exact hxe) hl hn
   rw[← hL,htk] at h1
   have hg:qlJ u x=(wi x.1 0 99&&(wi x.2.1 (-1) (iSub u.2.2.1 1)&&wi x.2.2 0 20)):=rfl
   cases h2:wi x.1 0 99 with
   | false=>rw[hg,h2];rfl
   | true =>
    cases h3:wi x.2.1 (-1) (iSub u.2.2.1 1) with
    | false=>rw[hg,h2,h3];rfl
    | true =>
     cases h4:wi x.2.2 0 20 with
     | false=>rw[hg,h2,h3,h4];rfl
     | true =>
      rw[hg,h2,h3,h4]
      simp only[Bool.not_true,cond_false,Bool.true_and,h1]
      cases ha:A.any fun y=>decide (y.1=x.1) with
      | true =>
       obtain ⟨y,hy,hyx⟩:=List.any_eq_true.1 ha
       have hnd:¬(l.map (·.1)).Nodup:=fun hnd=>by
        rw[hq,List.map_append,List.map_cons,List.nodup_append] at hnd
        exact hnd.2.2 y.1 (List.mem_map_of_mem hy) x.1 List.mem_cons_self (of_decide_eq_true hyx)
       rw[decide_eq_false hnd,Bool.and_false]
       rfl
      | false =>
       simp only[cond_false,Option.bind_some,Sum.elim_inl,qy (show A.length<9223372036854775807 by omega)]
       have:=ih (A++[x]) n' (by rw[hq];simp) (by
        rw[List.map_append,List.nodup_append]
        refine ⟨hA,by simp,fun a ha' b hb=>?_⟩
        obtain ⟨y,hy,rfl⟩:=List.mem_map.1 ha'
        simp only[List.map_cons,List.map_nil,List.mem_singleton] at hb
        rw[hb]
        rw[List.any_eq_false] at ha
        have:=ha y hy
        simpa using this) (by simp at hn';omega)
       rw[List.length_append,List.length_cons,List.length_nil,Nat.zero_add] at this
       exact this
 have h:=key l [] n rfl List.nodup_nil (by rw[hL];omega)
 rw[show (((0:Int),(u,())):Int×(Uni×Unit))=((([]:List qjA).length:Int),(u,())) from rfl,h]
 unfold qg9
 rw[← hL]
 cases l.all (qlJ u)&&decide ((l.map (·.1)).Nodup) with
 | false=>rfl
 | true =>
  simp only[cond_true,Option.bind_some,Sum.elim_inl,Bool.true_and,← hL]
  by_cases e:l.length≤40
  ·rw[show iLe (l.length:Int) 40=true from decide_eq_true (by omega),decide_eq_true e]
  ·rw[show iLe (l.length:Int) 40=false from decide_eq_false (by omega),decide_eq_false e]
def qlK(u:Uni)(r:qlY):Bool:=qld u r.1&&qld u r.2
def qnN(u:Uni)(w:Work):Bool:=qld u w.1&&(wi w.2.1 0 ((u.1.1.length:Int)-1)&&wi w.2.2 0 20)
def rowB(u:Uni)(r:List Int):Bool:=decide ((r.length:Int)=u.2.2.1)&&shB r
def uniB(u:Uni):Bool:=wi u.2.2.1 1 6&&(decide (u.2.2.2.1.length=u.1.1.length)&&(decide (u.2.2.2.2.1.length=u.1.1.length)&&(qg9 u u.2.2.2.2.2.1&&(decide (u.2.2.2.2.2.1.length≤40)&&(decide (u.2.2.2.2.2.2.1.length≤12)&&(decide (u.2.2.2.2.2.2.2.1.length≤20)&&(u.2.2.2.1.all (fun x=>wi x 0 100000)&&(u.2.2.2.2.1.all (rowB u)&&(u.2.2.2.2.2.2.1.all (qlK u)&&(u.2.2.2.2.2.2.2.1.all (qnN u)&&(wi u.2.2.2.2.2.2.2.2.1 0 100&&(wi u.2.2.2.2.2.2.2.2.2.1 0 100&&(wi u.2.2.2.2.2.2.2.2.2.2.1 0 100000&&wi u.2.2.2.2.2.2.2.2.2.2.2 0 100000)))))))))))))
def chkU(u:Uni):Int:=if chkN u.1 u.2.1=0 then cond (uniB u) 0 110 else chkN u.1 u.2.1
theorem qAl{α β:Type}(p:α→Bool)(q:β→Bool):∀(a:List α) (b:List β),a.length=b.length→(List.zip a b).all (fun x=>p x.1&&q x.2)=(a.all p&&b.all q)
 | [],[],_=>rfl
 | [],_::_,h=>by simp at h
 | _::_,[],h=>by simp at h
 | x::a,y::b,h=>by
  rw[List.zip_cons_cons,List.all_cons,List.all_cons,List.all_cons,qAl p q a b (by simpa using h)]
  cases p x<;>cases q y<;>cases a.all p<;>cases b.all q<;>rfl
theorem qA1(n:Nat)(u:Uni)(hc:1≤u.2.2.1∧u.2.2.1≤6)(he:u.2.2.2.1.length=u.2.2.2.2.1.length)(hl:u.2.2.2.1.length≤1000)(hr:∀r,r∈u.2.2.2.2.1→r.length≤1000)(hn:2000≤n) :
  qb n (qfh n) ((0:Int),(u,()))=some (cond (u.2.2.2.1.all (fun x=>wi x 0 100000)&&u.2.2.2.2.1.all (rowB u)) (.inl (u,())) (.inr (110,()))):=by
 have hz:(List.zip u.2.2.2.1 u.2.2.2.2.1).length=u.2.2.2.1.length:=by rw[List.length_zip];omega
 have h:=qm7 (step:=qfh n) (List.zip u.2.2.2.1 u.2.2.2.2.1) (fun k=>((k:Int),(u,()))) (fun x=>wi x.1 0 100000&&rowB u x.2) (.inl (u,())) (.inr (110,())) (fun rec k hk=>by
  have h1:k<u.2.2.2.1.length:=by omega
  have h2:k<u.2.2.2.2.1.length:=by omega
  have hrr:=hr _ (List.getElem_mem h2)
  rw[qla,List.getElem_zip]
  simp only[qK h1,cond_true,qS _ h1,qS _ h2,Option.bind_some,qhH,qzk n _ hrr hn,qy (show k<9223372036854775807 by omega)]
  cases wi (u.2.2.2.1[k]) 0 100000 with
  | false=>rfl
  | true =>
   simp only[Bool.not_true,cond_false,Bool.true_and]
   unfold rowB
   by_cases e:((u.2.2.2.2.1[k]).length:Int)=u.2.2.1
   ·rw[qdY e,decide_eq_true e,show wi ((u.2.2.2.2.1[k]).length:Int) 1 6=true by rw[e];exact qbd.2 hc]
    simp only[cond_false,Bool.and_true,Bool.true_and]
    cases shB (u.2.2.2.2.1[k])<;>rfl
   ·rw[qi7 e,decide_eq_false e];rfl) (fun rec=>by
  rw[hz,qla]
  simp only[qQ,cond_false]) (n:=n) (by omega)
 have h':qb n (qfh n) ((0:Int),(u,()))=_:=h
 rw[h',qAl (fun x=>wi x 0 100000) (rowB u) _ _ he]
theorem qA2(n:Nat)(u:Uni)(hc:1≤u.2.2.1∧u.2.2.1≤6)(hl:u.2.2.2.2.2.2.1.length≤1000)(hn:2000≤n) :
  qb n (qgE n) ((0:Int),(u,()))=some (cond (u.2.2.2.2.2.2.1.all (qlK u)) (.inl (u,())) (.inr (110,()))):=by
 exact qm7 (step:=qgE n) u.2.2.2.2.2.2.1 (fun k=>((k:Int),(u,()))) (qlK u) (.inl (u,())) (.inr (110,())) (fun rec k hk=>by
  rw[qlb]
  simp only[qK hk,cond_true,qS _ hk,Option.bind_some,qxS n u _ (by omega),qy (show k<9223372036854775807 by omega)]
  unfold qlK
  cases qld u (u.2.2.2.2.2.2.1[k]).1<;>cases qld u (u.2.2.2.2.2.2.1[k]).2<;>rfl) (fun rec=>by
  rw[qlb]
  simp only[qQ,cond_false]) (n:=n) (by omega)
theorem qA3(n:Nat)(u:Uni)(hc:1≤u.2.2.1∧u.2.2.1≤6)(he:u.2.2.2.1.length=u.1.1.length)(hl:u.2.2.2.2.2.2.2.1.length≤1000)(hf:u.2.2.2.1.length≤1000)(hn:2000≤n) :
  qb n (qgF n) ((0:Int),(u,()))=some (cond (u.2.2.2.2.2.2.2.1.all (qnN u)) (.inl (u,())) (.inr (110,()))):=by
 exact qm7 (step:=qgF n) u.2.2.2.2.2.2.2.1 (fun k=>((k:Int),(u,()))) (qnN u) (.inl (u,())) (.inr (110,())) (fun rec k hk=>by
  rw[qlc]
  simp only[qK hk,cond_true,qS _ hk,Option.bind_some,qxS n u _ (by omega),qhH,qy (show k<9223372036854775807 by omega),qZ (n:=iSub (u.2.2.2.1.length:Int) 1) (by unfold iSub;omega) (by unfold iSub;omega)]
  unfold qnN
  rw[← he]
  show _=cond (_&&(wi _ 0 (iSub (u.2.2.2.1.length:Int) 1)&&_)) _ _
  cases qld u (u.2.2.2.2.2.2.2.1[k]).1<;>cases wi (u.2.2.2.2.2.2.2.1[k]).2.1 0 (iSub (u.2.2.2.1.length:Int) 1)<;>cases wi (u.2.2.2.2.2.2.2.1[k]).2.2 0 20<;>rfl) (fun rec=>by
  rw[qlc]
  simp only[qQ,cond_false]) (n:=n) (by omega)
structure Small11 (u:Uni):Prop where
 hu:u.1.1.length≤20
 ln:u.2.1.length≤9∨(40<u.2.1.length∧u.2.1.length≤60)
 st:∀m,m∈u.2.1→m.2.2.2.2.length≤20
 fe:u.2.2.2.1.length≤20
 sh:u.2.2.2.2.1.length≤20
 rl:∀r,r∈u.2.2.2.2.1→r.length≤20
 gu:u.2.2.2.2.2.1.length≤42
 ri:u.2.2.2.2.2.2.1.length≤14
 wo:u.2.2.2.2.2.2.2.1.length≤22
theorem Small11.ms{u:Uni}(h:Small11 u):u.2.1.length≤60:=by rcases h.ln with h | h<;>omega
theorem Small11.near{u:Uni}(h:Small11 u):Near u.1 u.2.1:=⟨h.st,h.hu,h.ln⟩
theorem qs6(n:Nat)(u:Uni)(hs:Small11 u)(hn:5000≤n):qfT n (u,())=some (chkU u,()):=by
 have a1:=hs.hu;have a2:=hs.ms;have a3:=hs.fe;have a4:=hs.sh;have a5:=hs.gu;have a6:=hs.ri;have a7:=hs.wo
 rw[qqC]
 have h0:=qDD n u.1 u.2.1 (by omega) (by omega) (fun m hm=>by have:=hs.st m hm;omega) (by omega)
 show Option.bind (qhB n (u.1,(u.2.1,()))) _=_
 rw[h0,Option.bind_some]
 unfold chkU
 by_cases hk:chkN u.1 u.2.1=0
 ·rw[if_pos hk,qdY hk]
  simp only[cond_false,qhH,Option.bind_some]
  unfold uniB
  cases hw:wi u.2.2.1 1 6 with
  | false=>rfl
  | true =>
   have hc:=qbd.1 hw
   simp only[Bool.not_true,cond_false,Bool.true_and]
   by_cases e1:u.2.2.2.1.length=u.1.1.length
   ·rw[qdY (show (u.2.2.2.1.length:Int)=u.1.1.length by omega),decide_eq_true e1]
    simp only[cond_false,Bool.true_and]
    by_cases e2:u.2.2.2.2.1.length=u.1.1.length
    ·rw[qdY (show (u.2.2.2.2.1.length:Int)=u.1.1.length by omega),decide_eq_true e2]
     simp only[cond_false,Bool.true_and]
     rw[qzl n u (by omega) (by omega) (by omega),Option.bind_some]
     cases hg:(qg9 u u.2.2.2.2.2.1&&decide (u.2.2.2.2.2.1.length≤40)) with
     | false =>
      rw[show ∀x y z:Bool,(x&&(y&&z))=((x&&y)&&z) from fun x y z=>(Bool.and_assoc x y z).symm,hg];rfl
     | true =>
      rw[show ∀x y z:Bool,(x&&(y&&z))=((x&&y)&&z) from fun x y z=>(Bool.and_assoc x y z).symm,hg]
      simp only[Bool.not_true,cond_false,Bool.true_and]
      by_cases e3:u.2.2.2.2.2.2.1.length≤12
      ·rw[show iGt (u.2.2.2.2.2.2.1.length:Int) 12=false from decide_eq_false (by omega),decide_eq_true e3]
       simp only[cond_false,Bool.true_and]
       by_cases e4:u.2.2.2.2.2.2.2.1.length≤20
       ·rw[show iGt (u.2.2.2.2.2.2.2.1.length:Int) 20=false from decide_eq_false (by omega),decide_eq_true e4]
        simp only[cond_false,Bool.true_and]
        rw[qA1 n u hc (by omega) (by omega) (fun r hr=>by have:=hs.rl r hr;omega) (by omega),Option.bind_some]
        cases h5:(u.2.2.2.1.all (fun x=>wi x 0 100000)&&u.2.2.2.2.1.all (rowB u)) with
        | false =>
         rw[← Bool.and_assoc,h5];rfl
        | true =>
         rw[← Bool.and_assoc,h5]
         simp only[cond_true,Sum.elim_inl,Bool.true_and,qA2 n u hc (by omega) (by omega),Option.bind_some]
         cases u.2.2.2.2.2.2.1.all (qlK u) with
         | false=>rfl
         | true =>
          simp only[cond_true,Sum.elim_inl,Bool.true_and,qA3 n u hc e1 (by omega) (by omega) (by omega),Option.bind_some]
          cases u.2.2.2.2.2.2.2.1.all (qnN u) with
          | false=>rfl
          | true =>
           simp only[cond_true,Sum.elim_inl,Bool.true_and,qhH,Option.bind_some]
           cases wi u.2.2.2.2.2.2.2.2.1 0 100<;>cases wi u.2.2.2.2.2.2.2.2.2.1 0 100<;>cases wi u.2.2.2.2.2.2.2.2.2.2.1 0 100000<;>cases wi u.2.2.2.2.2.2.2.2.2.2.2 0 100000<;>rfl
       ·rw[show iGt (u.2.2.2.2.2.2.2.1.length:Int) 20=true from decide_eq_true (by omega),decide_eq_false e4];rfl
      ·rw[show iGt (u.2.2.2.2.2.2.1.length:Int) 12=true from decide_eq_true (by omega),decide_eq_false e3];rfl
    ·rw[qi7 (show (u.2.2.2.2.1.length:Int)≠u.1.1.length by omega),decide_eq_false e2];rfl
   ·rw[qi7 (show (u.2.2.2.1.length:Int)≠u.1.1.length by omega),decide_eq_false e1];rfl
 ·rw[if_neg hk,qi7 hk];rfl
abbrev Cnt:=List (Int×Int)
def qfU(x:Int):Cnt→Int
 | []=>0
 | p::l=>if x=p.1 then p.2 else qfU x l
def qnO(x:Int)(v:Int):Cnt→Cnt
 | []=>[(x,v)]
 | p::l=>if x=p.1 then (p.1,v)::l else p::qnO x v l
def qpH(x:Int):Cnt→Bool
 | []=>false
 | p::l=>if x=p.1 then true else qpH x l
def ixLK(x:Int):Cnt→Nat
 | []=>0
 | p::l=>if x=p.1 then 0 else ixLK x l+1
theorem eqK(a b:Int):Ty.eqB (Ty.i .i64) a b=decide (a=b):=by
 show (a==b)=_
 by_cases h:a=b<;>simp[h]
theorem qzm(x:Int):∀(l:Cnt) (i:Nat),mpAt (Ty.i .i64) x l i=if qpH x l then some (i+ixLK x l,qfU x l) else none
 | [],_=>rfl
 | p::l,i=>by
  unfold qpH ixLK qfU
  show (match Ty.eqB (Ty.i .i64) x p.1 with
   | true=>some (i,p.2)
   | false=>mpAt (Ty.i .i64) x l (i+1))=_
  rw[show Ty.eqB (Ty.i .i64) x p.1=decide (x=p.1) from eqK x p.1]
  by_cases h:x=p.1
  ·rw[if_pos h,if_pos h,if_pos h,show decide (x=p.1)=true from decide_eq_true h]
   rfl
  ·rw[if_neg h,if_neg h,if_neg h,show decide (x=p.1)=false from decide_eq_false h]
   show mpAt (Ty.i .i64) x l (i+1)=_
   rw[qzm x l (i+1)]
   congr 2
   rw[show i+1+ixLK x l=i+(ixLK x l+1) by omega]
theorem qxb{x:Int}{v:Int}:∀{l:Cnt},qpH x l=false→qfU x l=0∧qnO x v l=l++[(x,v)]∧ixLK x l=l.length
 | [],_=>⟨rfl,rfl,rfl⟩
 | p::l,h=>by
  unfold qpH at h
  split at h
  ·cases h
  ·rename_i hx
   obtain ⟨h1,h2,h3⟩:=qxb (v:=v) h
   unfold qfU qnO ixLK
   rw[if_neg hx,if_neg hx,if_neg hx,h1,h2,h3]
   exact ⟨rfl,rfl,rfl⟩
theorem qzn{x:Int}{v:Int}:∀{l:Cnt},qpH x l=true→qiQ (ixLK x l) v l=qnO x v l∧ixLK x l<l.length
 | [],h=>by cases h
 | p::l,h=>by
  unfold qpH at h
  unfold ixLK qnO
  split at h
  ·rename_i hx
   rw[if_pos hx,if_pos hx]
   exact ⟨rfl,by simp⟩
  ·rename_i hx
   rw[if_neg hx,if_neg hx]
   obtain ⟨h1,h2⟩:=qzn (v:=v) h
   refine ⟨?_,by simp;omega⟩
   rw[← h1]
   simp[qiQ]
theorem qCj(x:Int)(l:Cnt):qeX (Ty.i .i64) (0:Int) x l=qfU x l:=by
 unfold qeX
 rw[qzm x l 0]
 cases h:qpH x l with
 | true=>rfl
 | false=>exact (qxb (v:=0) h).1.symm
theorem qui(x z:Int)(v:Int):∀(l:Cnt),qfU z (qnO x v l)=if z=x then v else qfU z l
 | []=>by simp[qnO,qfU]
 | p::l=>by
  unfold qnO
  split
  ·rename_i hx
   unfold qfU
   by_cases h:z=x
   ·rw[if_pos h,if_pos (by rw[h,hx])]
   ·rw[if_neg h,if_neg (by rw[← hx];exact h),if_neg (by rw[← hx];exact h)]
  ·rename_i hx
   unfold qfU
   by_cases h:z=p.1
   ·rw[if_pos h,if_pos h,if_neg (fun e=>hx (by rw[← e,h]))]
   ·rw[if_neg h,if_neg h,qui x z v l]
theorem qCk(x:Int)(v:Int)(l:Cnt):qlM (Ty.i .i64) v x l=qnO x v l:=by
 unfold qlM
 rw[qzm x l 0]
 cases h:qpH x l with
 | true =>
  show qiQ (0+ixLK x l) v l=_
  rw[Nat.zero_add]
  exact (qzn h).1
 | false=>exact (qxb (v:=v) h).2.1.symm
theorem qkv(n:Nat)(a lo hi:Int):qba n (a,(lo,(hi,())))=some (wi a lo hi,()):=by
 rw[quU]
 show cond (iLe lo a) (some ((iLe a hi),())) (some (false,()))=_
 unfold wi iLe
 by_cases h:lo≤a
 ·rw[decide_eq_true h];rfl
 ·rw[decide_eq_false h];rfl
theorem qwx(n:Nat)(x:Int):qi5 n (x,())=some (wi x 0 100,()):=by
 rw[qub]
 show Option.bind (qba n (x,((0:Int),((100:Int),())))) _=_
 rw[qkv];rfl
theorem qCl(n:Nat)(x:Int):qmr n (x,())=some (wi x 0 100000,()):=by
 rw[qw0]
 show Option.bind (qba n (x,((0:Int),((100000:Int),())))) _=_
 rw[qkv];rfl
theorem qCm(n:Nat)(l:List Int)(p:Int→Bool)(hE:∀x,x∈l→qeU n (x,())=some (!p x,()))(hl:l.length≤1000)(hn:2000≤n):qfs n (l,(((),()),()))=some (l.all p,()):=by
 rw[qlV,qfG,qgb]
 have h1:=qeb (step:=qbH n) l (fun k=>(l,((l.length:Int),((k:Int),())))) (fun x=>!p x) (fun k=>.inr ((k:Int),())) (.inl ()) (fun rec k hk=>by
  rw[qcP]
  simp only[qK hk,cond_true,qS l hk,Option.bind_some,hE _ (List.getElem_mem hk),qy (show k<9223372036854775807 by omega)]) (fun rec=>by
  rw[qcP]
  simp only[qQ,cond_false]) (n:=n) (by omega)
 rw[show l.all p = !l.any fun x=>!p x by simp[List.all_eq_not_any_not]]
 show Option.bind (Option.bind (Option.bind (qb n _ (l,((l.length:Int),(((0:Nat):Int),())))) _) _) _=_
 rcases h1 with ⟨h1,h2⟩ | ⟨k,hk,h1,_,h2⟩
 ·rw[h2,h1];rfl
 ·rw[h2,show (l.any fun x=>!p x)=true from List.any_eq_true.2 ⟨_,List.getElem_mem hk,h1⟩]
  show some (!iGe (k:Int) 0,())=_
  simp[iGe]
theorem qCn(n:Nat)(l:List Int)(p:Int→Bool)(hE:∀x,x∈l→qfQ n (x,())=some (!p x,()))(hl:l.length≤1000)(hn:2000≤n):qgv n (l,(((),()),()))=some (l.all p,()):=by
 rw[qnd,qgl,qgP]
 have h1:=qeb (step:=qb0 n) l (fun k=>(l,((l.length:Int),((k:Int),())))) (fun x=>!p x) (fun k=>.inr ((k:Int),())) (.inl ()) (fun rec k hk=>by
  rw[qdl]
  simp only[qK hk,cond_true,qS l hk,Option.bind_some,hE _ (List.getElem_mem hk),qy (show k<9223372036854775807 by omega)]) (fun rec=>by
  rw[qdl]
  simp only[qQ,cond_false]) (n:=n) (by omega)
 rw[show l.all p = !l.any fun x=>!p x by simp[List.all_eq_not_any_not]]
 show Option.bind (Option.bind (Option.bind (qb n _ (l,((l.length:Int),(((0:Nat):Int),())))) _) _) _=_
 rcases h1 with ⟨h1,h2⟩ | ⟨k,hk,h1,_,h2⟩
 ·rw[h2,h1];rfl
 ·rw[h2,show (l.any fun x=>!p x)=true from List.any_eq_true.2 ⟨_,List.getElem_mem hk,h1⟩]
  show some (!iGe (k:Int) 0,())=_
  simp[iGe]
theorem qCo(n:Nat)(l:List (List Int))(st:Uni×Unit)(p:(List Int)→Bool)(hE:∀x,x∈l→qeV n (x,st)=some (!p x,st))(hl:l.length≤1000)(hn:2000≤n):qft n (l,st)=some (l.all p,st):=by
 rw[qlW,qfH,qgc]
 have h1:=qeb (step:=qbI n) l (fun k=>(l,((l.length:Int),((k:Int),st)))) (fun x=>!p x) (fun k=>.inr ((k:Int),st)) (.inl st) (fun rec k hk=>by
  rw[qcQ]
  simp only[qK hk,cond_true,qS l hk,Option.bind_some,hE _ (List.getElem_mem hk),qy (show k<9223372036854775807 by omega)]) (fun rec=>by
  rw[qcQ]
  simp only[qQ,cond_false]) (n:=n) (by omega)
 rw[show l.all p = !l.any fun x=>!p x by simp[List.all_eq_not_any_not]]
 show Option.bind (Option.bind (Option.bind (qb n _ (l,((l.length:Int),(((0:Nat):Int),st)))) _) _) _=_
 rcases h1 with ⟨h1,h2⟩ | ⟨k,hk,h1,_,h2⟩
 ·rw[h2,h1];rfl
 ·rw[h2,show (l.any fun x=>!p x)=true from List.any_eq_true.2 ⟨_,List.getElem_mem hk,h1⟩]
  show some (!iGe (k:Int) 0,st)=_
  simp[iGe]
theorem qzK(n:Nat)(l:List qlY)(st:Uni×Unit)(p:qlY→Bool)(hE:∀x,x∈l→qb1 n (x,st)=some (!p x,st))(hl:l.length≤1000)(hn:2000≤n):qcd n (l,st)=some (l.all p,st):=by
 rw[qgQ,qc9,qdB]
 have h1:=qeb (step:=qJ n) l (fun k=>(l,((l.length:Int),((k:Int),st)))) (fun x=>!p x) (fun k=>.inr ((k:Int),st)) (.inl st) (fun rec k hk=>by
  rw[qbj]
  simp only[qK hk,cond_true,qS l hk,Option.bind_some,hE _ (List.getElem_mem hk),qy (show k<9223372036854775807 by omega)]) (fun rec=>by
  rw[qbj]
  simp only[qQ,cond_false]) (n:=n) (by omega)
 rw[show l.all p = !l.any fun x=>!p x by simp[List.all_eq_not_any_not]]
 show Option.bind (Option.bind (Option.bind (qb n _ (l,((l.length:Int),(((0:Nat):Int),st)))) _) _) _=_
 rcases h1 with ⟨h1,h2⟩ | ⟨k,hk,h1,_,h2⟩
 ·rw[h2,h1];rfl
 ·rw[h2,show (l.any fun x=>!p x)=true from List.any_eq_true.2 ⟨_,List.getElem_mem hk,h1⟩]
  show some (!iGe (k:Int) 0,st)=_
  simp[iGe]
theorem qA4(n:Nat)(l:List Work)(st:Uni×Unit)(p:Work→Bool)(hE:∀x,x∈l→qb8 n (x,st)=some (!p x,st))(hl:l.length≤1000)(hn:2000≤n):qci n (l,st)=some (l.all p,st):=by
 rw[qgZ,qdo,qdH]
 have h1:=qeb (step:=qN n) l (fun k=>(l,((l.length:Int),((k:Int),st)))) (fun x=>!p x) (fun k=>.inr ((k:Int),st)) (.inl st) (fun rec k hk=>by
  rw[qbm]
  simp only[qK hk,cond_true,qS l hk,Option.bind_some,hE _ (List.getElem_mem hk),qy (show k<9223372036854775807 by omega)]) (fun rec=>by
  rw[qbm]
  simp only[qQ,cond_false]) (n:=n) (by omega)
 rw[show l.all p = !l.any fun x=>!p x by simp[List.all_eq_not_any_not]]
 show Option.bind (Option.bind (Option.bind (qb n _ (l,((l.length:Int),(((0:Nat):Int),st)))) _) _) _=_
 rcases h1 with ⟨h1,h2⟩ | ⟨k,hk,h1,_,h2⟩
 ·rw[h2,h1];rfl
 ·rw[h2,show (l.any fun x=>!p x)=true from List.any_eq_true.2 ⟨_,List.getElem_mem hk,h1⟩]
  show some (!iGe (k:Int) 0,st)=_
  simp[iGe]
theorem qA5(n:Nat)(l:List Int)(hl:l.length≤1000)(hn:2000≤n):qow n (l,())=some (shB l,()):=by
 rw[quV]
 have h:=qlX (step:=qmI n) l (fun k (b:Int)=>(l,(b,(l,((l.length:Int),((k:Int),())))))) (fun b x=>iW (iAdd b x)) 0 (fun b=>(l,(b,()))) (fun rec k b hk _=>by
  rw[qn9]
  simp only[qK hk,cond_true,qS l hk,Option.bind_some,qy (show k<9223372036854775807 by omega)]) (fun rec b=>by
  rw[qn9]
  simp only[qQ,cond_false]) (n:=n) (by omega)
 show Option.bind (qb n _ (l,((0:Int),(l,((l.length:Int),(((0:Nat):Int),())))))) _=_
 rw[h]
 simp only[Option.bind_some]
 rw[qCm n l (fun x=>wi x 0 100) (fun x _=>by
  rw[qlf,qwx];rfl) hl hn]
 unfold shB
 cases ha:l.all fun x=>wi x 0 100 with
 | false=>rfl
 | true =>
  have hb:∀x,x∈l→0≤x∧x≤100:=fun x hx=>qbd.1 (List.all_eq_true.1 ha x hx)
  have fs:∀(m:List Int) (b:Int),(∀x,x∈m→0≤x∧x≤100)→0≤b→b+100*m.length≤1000000→m.foldl (fun b x=>iW (iAdd b x)) b=b+m.sum:=by
   intro m
   induction m with
   | nil=>intro b _ _ _;simp
   | cons x m ih =>
    intro b hm h0 hb
    have hx:=hm x List.mem_cons_self
    simp only[List.length_cons] at hb
    rw[List.foldl_cons,qZ (by unfold iAdd;omega) (by unfold iAdd;omega),ih _ (fun y hy=>hm y (List.mem_cons_of_mem _ hy)) (by unfold iAdd;omega) (by unfold iAdd;omega)]
    unfold iAdd
    rw[List.sum_cons];omega
  simp only[Option.bind_some,cond_true,Bool.true_and]
  rw[fs l 0 hb (Int.le_refl _) (by omega),Int.zero_add]
  by_cases e:l.sum=100
  ·rw[qcv e,decide_eq_true e]
  ·rw[qe5 e,decide_eq_false e]
theorem qxT(n:Nat)(u:Uni)(x:Int)(hc:-1000≤u.2.2.1∧u.2.2.1≤1000):qie n (x,(u,()))=some (qld u x,(u,())):=by
 rw[qtm]
 show Option.bind (qba n (x,((0:Int),(iW (iSub u.2.2.1 1),())))) _=_
 rw[qZ (by unfold iSub;omega) (by unfold iSub;omega),qkv]
 rfl
theorem qCp(n:Nat)(u:Uni)(r:List Int)(hl:r.length≤1000)(hn:2000≤n):qmJ n (r,(u,()))=some (rowB u r,(u,())):=by
 rw[qtn]
 unfold rowB
 show cond (iEq (r.length:Int) u.2.2.1) _ _=_
 by_cases e:(r.length:Int)=u.2.2.1
 ·rw[qcv e,decide_eq_true e]
  simp only[cond_true,qA5 n r hl hn,Option.bind_some,Bool.true_and]
 ·rw[qe5 e,decide_eq_false e];rfl
theorem qCq(n:Nat)(u:Uni)(r:qlY)(hc:-1000≤u.2.2.1∧u.2.2.1≤1000):qfR n (r,(u,()))=some (qlK u r,(u,())):=by
 rw[qmt]
 simp only[qxT n u _ hc,Option.bind_some]
 unfold qlK
 cases qld u r.1<;>rfl
theorem qCr(n:Nat)(u:Uni)(w:Work)(hc:-1000≤u.2.2.1∧u.2.2.1≤1000)(hh:u.1.1.length≤1000):qfS n (w,(u,()))=some (qnN u w,(u,())):=by
 rw[qmu]
 simp only[qxT n u _ hc,Option.bind_some,qkv,qZ (n:=iSub (u.1.1.length:Int) 1) (by unfold iSub;omega) (by unfold iSub;omega)]
 unfold qnN
 show _=some (qld u w.1&&(wi w.2.1 0 (iSub (u.1.1.length:Int) 1)&&wi w.2.2 0 20),(u,()))
 cases qld u w.1<;>cases wi w.2.1 0 (iSub (u.1.1.length:Int) 1)<;>rfl
theorem qCs(n:Nat)(u:Uni)(g:qjA)(m:Cnt)(hc:-1000≤u.2.2.1∧u.2.2.1≤1000)(hm:0≤qfU g.1 m∧qfU g.1 m≤1000):qmK n (g,(m,(u,())))=some (qlJ u g&&decide (qfU g.1 m=0),(qnO g.1 (qfU g.1 m+1) m,(u,()))):=by
 rw[qto]
 simp only[qkv,Option.bind_some,qCj,qCk,qui,if_true,qZ (n:=iSub u.2.2.1 1) (by unfold iSub;omega) (by unfold iSub;omega),qZ (n:=iAdd (qfU g.1 m) 1) (by unfold iAdd;omega) (by unfold iAdd;omega),show (Int.negSucc 0) = -1 from rfl]
 have hg:qlJ u g=(wi g.1 0 99&&(wi g.2.1 (-1) (iSub u.2.2.1 1)&&wi g.2.2 0 20)):=rfl
 rw[hg]
 unfold iAdd
 by_cases e:qfU g.1 m=0
 ·rw[qcv (show qfU g.1 m+1=1 by omega),decide_eq_true e]
  cases wi g.1 0 99<;>cases wi g.2.1 (-1) (iSub u.2.2.1 1)<;>cases wi g.2.2 0 20<;>rfl
 ·rw[qe5 (show qfU g.1 m+1≠1 by omega),decide_eq_false e,Bool.and_false]
  cases wi g.1 0 99<;>rfl
theorem qCt(n:Nat)(u:Uni)(l:List qjA)(hc:-1000≤u.2.2.1∧u.2.2.1≤1000)(hl:l.length≤1000):∀(B A:List qjA) (m:Cnt) (n':Nat),l=A++B→(A.map (·.1)).Nodup→(∀x,qfU x m=if x∈A.map (·.1) then 1 else 0)→B.length<n' →
  ∃(m':Cnt) (j:Nat),qb n' (q9 n) (l,((l.length:Int),((A.length:Int),(m,(u,())))))=some (cond (B.all (qlJ u)&&decide ((l.map (·.1)).Nodup)) (.inl (m',(u,()))) (.inr ((j:Int),(m',(u,()))))):=by
 intro B
 induction B with
 | nil =>
  intro A m n' hq hA hm hn'
  obtain ⟨n',rfl⟩:∃m,n'=m+1:=⟨n'-1,by omega⟩
  rw[List.append_nil] at hq
  refine ⟨m,0,?_⟩
  rw[qx,qb5]
  simp only[hq,qQ,cond_false,List.all_nil,Bool.true_and,decide_eq_true hA]
  rfl
 | cons x B ih =>
  intro A m n' hq hA hm hn'
  obtain ⟨n',rfl⟩:∃m,n'=m+1:=⟨n'-1,by omega⟩
  have hAl:A.length<l.length:=by rw[hq];simp
  have hx:l[A.length]?=some x:=by rw[hq];simp
  have hv:=hm x.1
  have hv2:0≤qfU x.1 m∧qfU x.1 m≤1000:=by rw[hv];split<;>omega
  rw[qx,qb5]
  simp only[qK hAl,cond_true,qiO,hx,Option.bind_some,qjU,qCs n u x m hc hv2]
  rw[List.all_cons]
  cases hg:qlJ u x with
  | false=>exact ⟨_,A.length,rfl⟩
  | true =>
   simp only[Bool.true_and]
   by_cases e:x.1∈A.map (·.1)
   ·have hnd:¬(l.map (·.1)).Nodup:=fun hnd=>by
     rw[hq,List.map_append,List.map_cons,List.nodup_append] at hnd
     exact hnd.2.2 x.1 e x.1 List.mem_cons_self rfl
    rw[decide_eq_false hnd,Bool.and_false,hv,if_pos e]
    exact ⟨_,A.length,rfl⟩
   ·rw[if_neg e] at hv
    rw[hv]
    simp only[decide_true,Bool.not_true,cond_false,qy (show A.length<9223372036854775807 by omega)]
    have:=ih (A++[x]) (qnO x.1 (0+1) m) n' (by rw[hq];simp) (by
     rw[List.map_append,List.nodup_append]
     refine ⟨hA,by simp,fun a ha b hb=>?_⟩
     simp only[List.map_cons,List.map_nil,List.mem_singleton] at hb
     subst hb
     exact fun h=>e (h ▸ ha)) (fun z=>by
     rw[qui,hm z]
     by_cases hz:z=x.1
     ·rw[if_pos hz,if_pos (by rw[hz];simp)];rfl
     ·rw[if_neg hz]
      by_cases hz2:z∈A.map (·.1)
      ·rw[if_pos hz2,if_pos (by rw[List.map_append];exact List.mem_append_left _ hz2)]
      ·rw[if_neg hz2,if_neg (by
        rw[List.map_append]
        intro h
        rcases List.mem_append.1 h with h | h
        ·exact hz2 h
        ·simp only[List.map_cons,List.map_nil,List.mem_singleton] at h;exact hz h)]) (by simp at hn';omega)
    rw[List.length_append,List.length_cons,List.length_nil,Nat.zero_add] at this
    exact this
theorem qzo(n:Nat)(u:Uni)(l:List qjA)(hc:-1000≤u.2.2.1∧u.2.2.1≤1000)(hl:l.length≤1000)(hn:2000≤n):∃m',qec n (l,([],(u,())))=some (qg9 u l,(m',(u,()))):=by
 rw[qkq,qeD,qeW]
 obtain ⟨m',j,h⟩:=qCt n u l hc hl l [] [] n rfl List.nodup_nil (fun x=>by simp[qfU]) (by omega)
 refine ⟨m',?_⟩
 show Option.bind (Option.bind (Option.bind (qb n _ (l,((l.length:Int),((([]:List qjA).length:Int),([],(u,())))))) _) _) _=_
 rw[h]
 unfold qg9
 cases l.all (qlJ u)&&decide ((l.map (·.1)).Nodup) with
 | true=>rfl
 | false =>
  show some (!iGe (j:Int) 0,(m',(u,())))=_
  rw[show iGe (j:Int) 0=true from decide_eq_true (by omega)]
  rfl
theorem qCu(n:Nat)(u:Uni)(hs:Small11 u)(hn:5000≤n):qmx n (u,())=some (chkU u,()):=by
 have a1:=hs.hu;have a2:=hs.ms;have a3:=hs.fe;have a4:=hs.sh;have a5:=hs.gu;have a6:=hs.ri;have a7:=hs.wo
 rw[qqh]
 show Option.bind (qia n (u.1,(u.2.1,()))) _=_
 rw[qCi n u.1 u.2.1 hs.near (by omega),Option.bind_some]
 unfold chkU
 by_cases hk:chkN u.1 u.2.1=0
 ·rw[if_pos hk,qdY hk]
  simp only[cond_false,qkv,Option.bind_some]
  unfold uniB
  cases hw:wi u.2.2.1 1 6 with
  | false=>rfl
  | true =>
   have hc:=qbd.1 hw
   simp only[Bool.not_true,cond_false,Bool.true_and]
   by_cases e1:u.2.2.2.1.length=u.1.1.length
   ·rw[qdY (show (u.2.2.2.1.length:Int)=u.1.1.length by omega),decide_eq_true e1]
    simp only[cond_false,Bool.true_and]
    rw[qCn n u.2.2.2.1 (fun x=>wi x 0 100000) (fun x _=>by rw[qms,qCl];rfl) (by omega) (by omega),Option.bind_some]
    by_cases e2:u.2.2.2.2.1.length=u.1.1.length
    ·rw[qdY (show (u.2.2.2.2.1.length:Int)=u.1.1.length by omega),decide_eq_true e2]
     simp only[cond_false,Bool.true_and]
     rw[qCo n u.2.2.2.2.1 (u,()) (rowB u) (fun r hr=>by rw[qlg,qCp n u r (by have:=hs.rl r hr;omega) (by omega)];rfl) (by omega) (by omega)]
     simp only[Option.bind_some]
     obtain ⟨m',hg⟩:=qzo n u u.2.2.2.2.2.1 (by omega) (by omega) (by omega)
     rw[hg]
     simp only[Option.bind_some]
     rw[qzK n u.2.2.2.2.2.2.1 (u,()) (qlK u) (fun r _=>by rw[qgw,qCq n u r (by omega)];rfl) (by omega) (by omega)]
     simp only[Option.bind_some]
     rw[qA4 n u.2.2.2.2.2.2.2.1 (u,()) (qnN u) (fun w _=>by rw[qgC,qCr n u w (by omega) (by omega)];rfl) (by omega) (by omega)]
     simp only[Option.bind_some,qwx,qCl]
     by_cases e3:u.2.2.2.2.2.1.length≤40
     ·by_cases e4:u.2.2.2.2.2.2.1.length≤12
      ·by_cases e5:u.2.2.2.2.2.2.2.1.length≤20
       ·rw[show iGt (u.2.2.2.2.2.1.length:Int) 40=false from decide_eq_false (by omega),show iGt (u.2.2.2.2.2.2.1.length:Int) 12=false from decide_eq_false (by omega),show iGt (u.2.2.2.2.2.2.2.1.length:Int) 20=false from decide_eq_false (by omega),decide_eq_true e3,decide_eq_true e4,decide_eq_true e5]
        cases u.2.2.2.1.all (fun x=>wi x 0 100000) with
        | false=>cases qg9 u u.2.2.2.2.2.1<;>rfl
        | true =>
         cases u.2.2.2.2.1.all (rowB u) with
         | false=>cases qg9 u u.2.2.2.2.2.1<;>rfl
         | true =>
          cases qg9 u u.2.2.2.2.2.1 with
          | false=>rfl
          | true =>
           cases u.2.2.2.2.2.2.1.all (qlK u) with
           | false=>rfl
           | true =>
            cases u.2.2.2.2.2.2.2.1.all (qnN u) with
            | false=>rfl
            | true =>
             cases wi u.2.2.2.2.2.2.2.2.1 0 100<;>cases wi u.2.2.2.2.2.2.2.2.2.1 0 100<;>cases wi u.2.2.2.2.2.2.2.2.2.2.1 0 100000<;>cases wi u.2.2.2.2.2.2.2.2.2.2.2 0 100000<;>rfl
       ·rw[show iGt (u.2.2.2.2.2.2.2.1.length:Int) 20=true from decide_eq_true (by omega),decide_eq_false e5]
        cases u.2.2.2.1.all (fun x=>wi x 0 100000)<;>cases u.2.2.2.2.1.all (rowB u)<;>cases iGt (u.2.2.2.2.2.1.length:Int) 40<;>cases qg9 u u.2.2.2.2.2.1<;>cases iGt (u.2.2.2.2.2.2.1.length:Int) 12<;>cases decide (u.2.2.2.2.2.1.length≤40)<;>cases decide (u.2.2.2.2.2.2.1.length≤12)<;>cases u.2.2.2.2.2.2.1.all (qlK u)<;>rfl
      ·rw[show iGt (u.2.2.2.2.2.2.1.length:Int) 12=true from decide_eq_true (by omega),decide_eq_false e4]
       cases u.2.2.2.1.all (fun x=>wi x 0 100000)<;>cases u.2.2.2.2.1.all (rowB u)<;>cases iGt (u.2.2.2.2.2.1.length:Int) 40<;>cases qg9 u u.2.2.2.2.2.1<;>cases decide (u.2.2.2.2.2.1.length≤40)<;>rfl
     ·rw[show iGt (u.2.2.2.2.2.1.length:Int) 40=true from decide_eq_true (by omega),decide_eq_false e3]
      cases u.2.2.2.1.all (fun x=>wi x 0 100000)<;>cases u.2.2.2.2.1.all (rowB u)<;>cases qg9 u u.2.2.2.2.2.1<;>rfl
    ·rw[qi7 (show (u.2.2.2.2.1.length:Int)≠u.1.1.length by omega),decide_eq_false e2]
     cases u.2.2.2.1.all (fun x=>wi x 0 100000)<;>rfl
   ·rw[qi7 (show (u.2.2.2.1.length:Int)≠u.1.1.length by omega),decide_eq_false e1];rfl
 ·rw[if_neg hk,qi7 hk];rfl
end Go.Proofs.YtcjcacbhkoainaaGreatDoor
