/- Clubs, plain: the reference splits alike. -/
import Derived.Test.YtlmicgmhallkkaaGreatDoorDk1
set_option linter.constructorNameAsVariable false
set_option linter.unusedSimpArgs false
set_option linter.unusedVariables false
set_option linter.unusedSectionVars false
namespace Go.Proofs.YtlmicgmhallkkaaGreatDoor
open Go Go.Proofs Go.RowKit
set_option maxHeartbeats 1000000
def qER(a:Int)(l:List Int)(got:List Bool)(i:Nat)(b:Int):Prop :=
 (b = -1∧∀x:Nat,x<i→got[x]?=some true)∨(∃k:Nat,b=(k:Int)∧k<i∧got[k]?=some false∧∀x:Nat,x<i→got[x]?=some false→x≠k→Bef a l (k:Int) (x:Int))
theorem qBA{α:Type}{l:List α}{k:Nat}{x:α}(h:l[k]?=some x):lat l (k:Int)=some x:=by rw[qfj];exact h
theorem qJc(n:Nat)(a:Int)(l:List Int)(ha:0≤a∧a≤1000000000000)(hl:∀x,x∈l→0≤x∧x≤100)(hL:l.length≤1000)(left:Int)(out:List Int)(got:List Bool)(hg:got.length=l.length):∀(m i n':Nat) (b:Int),i+m=l.length→m<n'→qER a l got i b →
  ∃b',qER a l got l.length b'∧qb n' (qhq n) (a,(l,(left,(b,((i:Int),(out,(got,())))))))=some (a,(l,(left,(b',(out,(got,())))))):=by
 intro m
 induction m with
 | zero =>
  intro i n' b hi hn' hb
  obtain ⟨n',rfl⟩:∃j,n'=j+1:=⟨n'-1,by omega⟩
  obtain rfl:i=l.length:=by omega
  refine ⟨b,hb,?_⟩
  rw[qc,qmR]
  simp only[ql,cond_false]
 | succ m ih =>
  intro i n' b hi hn' hb
  obtain ⟨n',rfl⟩:∃j,n'=j+1:=⟨n'-1,by omega⟩
  have hil:i<l.length:=by omega
  have hig:i<got.length:=by omega
  have hv:=hl _ (List.getElem_mem hil)
  have hri:=qBz (a:=a) (qm l hil)
  rw[qc,qmR]
  simp only[qk hil,cond_true,qm got hig,Option.bind_some,Int.toNat_natCast,List.getElem?_eq_getElem hig,qg (show i<9223372036854775807 by omega)]
  cases hgi:got[i] with
  | true =>
   simp only[Bool.not_true,cond_false]
   refine ih (i+1) n' b (by omega) (by omega) ?_
   rcases hb with ⟨h1,h2⟩ | ⟨k,h1,h2,h3,h4⟩
   ·refine .inl ⟨h1,fun x hx=>?_⟩
    rcases Nat.lt_or_ge x i with h | h
    ·exact h2 x h
    ·obtain rfl:x=i:=by omega
     rw[List.getElem?_eq_getElem hig,hgi]
   ·refine .inr ⟨k,h1,by omega,h3,fun x hx hx2 hx3=>?_⟩
    rcases Nat.lt_or_ge x i with h | h
    ·exact h4 x h hx2 hx3
    ·obtain rfl:x=i:=by omega
     rw[List.getElem?_eq_getElem hig,hgi] at hx2
     cases hx2
  | false =>
   simp only[Bool.not_false,cond_true]
   have hgi':got[i]?=some false:=by rw[List.getElem?_eq_getElem hig,hgi]
   rcases hb with ⟨rfl,h2⟩ | ⟨k,rfl,h2,h3,h4⟩
   ·rw[show iLt (-1:Int) 0=true from rfl]
    simp only[cond_true]
    refine ih (i+1) n' (i:Int) (by omega) (by omega) (.inr ⟨i,rfl,by omega,hgi',fun x hx hx2 hx3=>?_⟩)
    rw[h2 x (by omega)] at hx2
    cases hx2
   ·have hkl:k<l.length:=by omega
    have hw:=hl _ (List.getElem_mem hkl)
    have hrk:=qBz (a:=a) (qm l hkl)
    rw[show iLt (k:Int) 0=false from decide_eq_false (by omega)]
    simp only[cond_false,qm l hil,qm l hkl,Option.bind_some,show qq (iNe (100:Int) (0:Int))=some () from rfl,qt0 ha hv,qt0 ha hw]
    rw[← hri,← hrk]
    by_cases hlt:rS a l (k:Int)<rS a l (i:Int)
    ·rw[show iGt (rS a l (i:Int)) (rS a l (k:Int))=true from decide_eq_true hlt]
     simp only[cond_true]
     refine ih (i+1) n' (i:Int) (by omega) (by omega) (.inr ⟨i,rfl,by omega,hgi',fun x hx hx2 hx3=>?_⟩)
     by_cases hxk:x=k
     ·subst hxk;exact .inl hlt
     ·rcases h4 x (by omega) hx2 hxk with h | h
      ·exact .inl (by omega)
      ·exact .inl (by omega)
    ·rw[show iGt (rS a l (i:Int)) (rS a l (k:Int))=false from decide_eq_false hlt]
     simp only[cond_false]
     refine ih (i+1) n' (k:Int) (by omega) (by omega) (.inr ⟨k,rfl,by omega,h3,fun x hx hx2 hx3=>?_⟩)
     rcases Nat.lt_or_ge x i with h | h
     ·exact h4 x h hx2 hx3
     ·obtain rfl:x=i:=by omega
      unfold Bef
      omega
def gotL(a:Int)(l:List Int)(k:Nat):List Bool:=(List.range l.length).map fun j:Nat=>decide ((j:Int)∈(ordS a l).take k)
theorem qxG(a:Int)(l:List Int)(k:Nat){j:Nat}(hj:j<l.length):(gotL a l k)[j]?=some (decide ((j:Int)∈(ordS a l).take k)):=by
 unfold gotL
 rw[List.getElem?_map,List.getElem?_range hj];rfl
theorem qta(a:Int)(l:List Int)(k:Nat):(gotL a l k).length=l.length:=by unfold gotL;simp
theorem qJd{a:Int}{l:List Int}{k:Nat}(hk:k<l.length){b:Int}(h:qER a l (gotL a l k) l.length b):∃hk':k<(ordS a l).length,b=(ordS a l)[k]:=by
 have hk':k<(ordS a l).length:=by rw[qyP];exact hk
 refine ⟨hk',?_⟩
 have hnd:=qzK a l
 have hsplit:ordS a l=(ordS a l).take k++(ordS a l).drop k:=(List.take_append_drop k _).symm
 have hno:∀y,y∈(ordS a l).drop k→y∉(ordS a l).take k:=fun y hy hy2=>by
  rw[hsplit,List.nodup_append] at hnd
  exact hnd.2.2 y hy2 y hy rfl
 have hmem:(ordS a l)[k]∈(ordS a l).drop k:=by rw[List.drop_eq_getElem_cons hk'];exact List.mem_cons_self
 have hr:=qq4.1 (List.getElem_mem hk')
 obtain ⟨j,hj⟩:=Int.eq_ofNat_of_zero_le hr.1
 have hjl:j<l.length:=by omega
 have hgj:(gotL a l k)[j]?=some false:=by
  rw[qxG a l k hjl,← hj,decide_eq_false (hno _ hmem)]
 rcases h with ⟨rfl,h2⟩ | ⟨i,rfl,h2,h3,h4⟩
 ·rw[h2 j hjl] at hgj;cases hgj
 ·by_cases hji:j=i
  ·rw[hj,hji]
  ·have h5:=h4 j hjl hgj hji
   rw[qxG a l k h2] at h3
   injection h3 with h3
   have h6:=of_decide_eq_false h3
   have h7:(i:Int)∈(ordS a l).drop k:=by
    have:(i:Int)∈ordS a l:=qq4.2 ⟨by omega,by omega⟩
    rw[hsplit,List.mem_append] at this
    exact this.resolve_left h6
   have hsd:=(qDh a l).sublist (List.drop_sublist k _)
   rw[List.drop_eq_getElem_cons hk'] at h7 hsd
   rw[List.pairwise_cons] at hsd
   rcases List.mem_cons.1 h7 with h8 | h8
   ·exact h8
   ·have h9:=hsd.1 _ h8
    rw[hj] at h9
    unfold Bef at h5 h9
    omega
theorem qH3{a:Int}{l:List Int}{k:Nat}(hk:k<(ordS a l).length):(gotL a l k).set ((ordS a l)[k]).toNat true=gotL a l (k+1):=by
 have hr:=qq4.1 (List.getElem_mem hk)
 refine List.ext_getElem? fun j=>?_
 rw[List.getElem?_set,qta]
 rcases Nat.lt_or_ge j l.length with hj | hj
 ·rw[qxG a l (k+1) hj,qxG a l k hj,List.take_succ_eq_append_getElem hk]
  by_cases he:((ordS a l)[k]).toNat=j
  ·rw[if_pos he,if_pos (by omega),decide_eq_true]
   rw[List.mem_append]
   right
   rw[List.mem_singleton];omega
  ·rw[if_neg he]
   have hne:¬((j:Int)=(ordS a l)[k]):=by omega
   have hiff:(j:Int)∈(ordS a l).take k↔(j:Int)∈(ordS a l).take k++[(ordS a l)[k]]:=by
    rw[List.mem_append,List.mem_singleton]
    exact ⟨.inl,fun h=>h.resolve_right hne⟩
   by_cases hm:(j:Int)∈(ordS a l).take k
   ·rw[decide_eq_true hm,decide_eq_true (hiff.1 hm)]
   ·rw[decide_eq_false hm,decide_eq_false fun h=>hm (hiff.2 h)]
 ·rw[if_neg (by omega),List.getElem?_eq_none (by rw[qta];exact hj),List.getElem?_eq_none (by rw[qta];exact hj)]
theorem qGk(n:Nat)(a:Int)(l:List Int)(ha:0≤a∧a≤1000000000000)(hl:∀x,x∈l→0≤x∧x≤100)(hL:l.length<20)(hn:2000≤n)(R:Nat)(hR:R≤l.length):∀(m k n':Nat),k+m=R→m<n' →
  qb n' (qhr n) (a,(l,((m:Int),((((ordS a l).take k).foldl qj7 (l.map (qS a))),(gotL a l k,())))))=some (((ordS a l).take R).foldl qj7 (l.map (qS a)),()):=by
 intro m
 induction m with
 | zero =>
  intro k n' hk hn'
  obtain ⟨n',rfl⟩:∃j,n'=j+1:=⟨n'-1,by omega⟩
  obtain rfl:k=R:=by omega
  rw[qc,qmS]
  rfl
 | succ m ih =>
  intro k n' hk hn'
  obtain ⟨n',rfl⟩:∃j,n'=j+1:=⟨n'-1,by omega⟩
  obtain ⟨P,hP⟩:∃P,P=((ordS a l).take k).foldl qj7 (l.map (qS a)):=⟨_,rfl⟩
  have hPl:P.length=l.length:=by rw[hP,qAr,List.length_map]
  obtain ⟨b,hb,hit⟩:=qJc n a l ha hl (by omega) ((m+1:Nat):Int) P (gotL a l k) (qta a l k) l.length 0 n (-1) (by omega) (by omega) (.inl ⟨rfl,fun x hx=>absurd hx (Nat.not_lt_zero _)⟩)
  obtain ⟨hk',rfl⟩:=qJd (show k<l.length by omega) hb
  have hr:=qq4.1 (List.getElem_mem hk')
  obtain ⟨j,hj⟩:=Int.eq_ofNat_of_zero_le hr.1
  have hjl:j<l.length:=by omega
  have hjP:j<P.length:=by omega
  have hjg:j<(gotL a l k).length:=by rw[qta];exact hjl
  have hPj:0≤P[j]∧P[j]≤1000000000001:=by
   have h:=qGj ((ordS a l).take k) (l.map (qS a)) j (qD0 a l _).1 (fun x hx=>((qD0 a l _).2 x hx).1) (by rw[List.length_map];exact hjl)
   rw[← hP,List.getElem?_eq_getElem hjP,List.getElem?_map,List.getElem?_eq_getElem hjl] at h
   simp only[Option.getD_some,Option.map_some] at h
   have:=qzI ha (hl _ (List.getElem_mem hjl))
   rw[h]
   split<;>omega
  rw[qc,qmS,← hP]
  rw[show iGt ((m+1:Nat):Int) 0=true from decide_eq_true (by omega)]
  have hit':qb n (qhq n) (a,(l,(((m+1:Nat):Int),(Int.negSucc 0,((0:Int),(P,(gotL a l k,())))))))=_:=hit
  simp only[cond_true,hit',Option.bind_some,hj]
  simp only[qm P hjP,qm _ hjg,Option.bind_some,Int.toNat_natCast,List.getElem?_eq_getElem hjP,List.getElem?_eq_getElem hjg]
  have e1:P.set j (iW (iAdd P[j] 1))=((ordS a l).take (k+1)).foldl qj7 (l.map (qS a)):=by
   rw[List.take_succ_eq_append_getElem hk',List.foldl_append,← hP]
   show _=qj7 P (ordS a l)[k]
   unfold qj7
   rw[hj,Int.toNat_natCast,List.getElem?_eq_getElem hjP,Option.getD_some,qbm (by unfold iAdd;omega) (by unfold iAdd;omega)]
   try rfl
  have e2:(gotL a l k).set j true=gotL a l (k+1):=by
   have:=qH3 hk'
   rw[hj,Int.toNat_natCast] at this
   exact this
  rw[e1,e2,show iW (iSub ((m+1:Nat):Int) 1)=(m:Int) by rw[qbm (by unfold iSub;omega) (by unfold iSub;omega)];unfold iSub;omega]
  exact ih (k+1) n' (by omega) (by omega)
theorem qGl(n:Nat)(a:Int)(l:List Int)(ha:0≤a∧a≤1000000000000)(hl:∀x,x∈l→0≤x∧x≤100)(hL:l.length<20):∀(B A:List Int) (n':Nat),l=A++B→B.length<n' →
  qb n' (qhp n) (a,(l,(a-(A.map (qS a)).sum,((A.length:Int),(A.map (qS a)++List.replicate B.length 0,())))))=some (a,(l,(a-(l.map (qS a)).sum,(l.map (qS a),())))):=by
 intro B
 induction B with
 | nil =>
  intro A n' e hn'
  obtain ⟨n',rfl⟩:∃j,n'=j+1:=⟨n'-1,by simp at hn';omega⟩
  rw[List.append_nil] at e
  subst e
  rw[qc,qmQ]
  simp only[ql,cond_false,List.length_nil,List.replicate_zero,List.append_nil]
 | cons x B ih =>
  intro A n' e hn'
  obtain ⟨n',rfl⟩:∃j,n'=j+1:=⟨n'-1,by simp at hn';omega⟩
  have hlen:l.length=A.length+(B.length+1):=by rw[e,List.length_append,List.length_cons]
  have hlt:A.length<l.length:=by omega
  have hx:=hl x (by rw[e];simp)
  have hq:=qzI ha hx
  have hA:=qxF ha A fun y hy=>hl y (by rw[e];simp[hy])
  have hAq:(A.map (qS a)).length=A.length:=List.length_map _
  rw[qc,qmQ]
  rw[List.length_cons,List.replicate_succ]
  have hlat:lat l (A.length:Int)=some x:=by rw[e];exact latA A B x rfl
  simp only[qk hlt,cond_true,hlat,Option.bind_some,show qq (iNe (100:Int) (0:Int))=some () from rfl,latA _ _ _ hAq,getA _ _ _ hAq,setA _ _ _ _ hAq,Int.toNat_natCast,hq.2.2.2.2,qg (show A.length<9223372036854775807 by omega)]
  rw[show iW (iSub (a-(A.map (qS a)).sum) (qS a x))=a-((A++[x]).map (qS a)).sum by
   rw[qbm (by unfold iSub;omega) (by unfold iSub;omega),List.map_append,List.sum_append]
   simp[iSub]
   omega]
  have:=ih (A++[x]) n' (by rw[e];simp) (by simp at hn';omega)
  rw[List.length_append,List.map_append] at this
  rw[List.map_append]
  simpa using this
theorem qyh(n:Nat)(a:Int)(l:List Int)(ha:0≤a∧a≤1000000000000)(hl:∀x,x∈l→0≤x∧x≤100)(hs:l.sum=100)(hL:l.length<20)(hn:2000≤n):qiv n (a,(l,()))=some (qla a l,()):=by
 obtain ⟨hR1,hR2⟩:=qDZ ha hl hs
 have o3:=qGl n a l ha hl hL l [] n rfl (by omega)
 have p3:=qGk n a l ha hl hL hn (qqd a l) hR2 (qqd a l) 0 n (by omega) (by omega)
 rw[qtt]
 have hmk:qq (iMk (l.length:Int))=some ():=q8 (by unfold iMk;simp only[Bool.and_eq_true,decide_eq_true_eq];omega)
 simp only[hmk,q8 (qbn (rfl:(l.length:Int)=l.length)),Option.bind_some,Int.toNat_natCast]
 have o3':qb n (qhp n) (a,(l,(a,((0:Int),(List.replicate l.length 0,())))))=some (a,(l,(a-(l.map (qS a)).sum,(l.map (qS a),())))):=by
  rw[← o3];simp
 rw[o3']
 simp only[Option.bind_some,hmk,q8 (qbn (rfl:(l.length:Int)=l.length)),Int.toNat_natCast,hR1]
 have hg:gotL a l 0=List.replicate l.length false:=by
  unfold gotL
  simp only[List.take_zero,List.not_mem_nil,decide_false]
  rw[List.map_const',List.length_range]
 rw[hg] at p3
 have p3':qb n (qhr n) (a,(l,((qqd a l:Int),(l.map (qS a),(List.replicate l.length false,())))))=_:=p3
 rw[p3']
 rfl
theorem qGm(n:Nat)(l:List Int)(hl:l.length<1000000)(hn:l.length<n):qdR n (l,(l,()))=some (true,()):=by
 rw[qrY]
 have h:=qj4 (step:=qf2 n) l (fun k=>(l,(l,((k:Int),())))) (fun _=>false) (.inr (false,())) (.inl ()) (fun rec k hk=>by
  rw[qk9]
  simp only[qk hk,cond_true,qm l hk,Option.bind_some,qc3 rfl,cond_false,qg (show k<9223372036854775807 by omega)]) (fun rec=>by
  rw[qk9]
  simp only[ql,cond_false]) (n:=n) hn
 have h':qb n (qf2 n) (l,(l,((0:Int),())))=_:=h
 simp only[qc3 rfl,cond_false,h',Option.bind_some]
 rw[show (l.any fun _=>false)=false by simp]
 rfl
end Go.Proofs.YtlmicgmhallkkaaGreatDoor
