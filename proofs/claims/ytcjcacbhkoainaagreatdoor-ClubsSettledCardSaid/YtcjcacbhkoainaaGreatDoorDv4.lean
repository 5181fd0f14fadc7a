/- Balances: what the transfers of a group do to the numbers. -/
import Derived.Test.YtcjcacbhkoainaaGreatDoorDv3
set_option linter.constructorNameAsVariable false
set_option linter.unusedSimpArgs false
set_option linter.unusedVariables false
set_option linter.unusedSectionVars false
namespace Go.Proofs.YtcjcacbhkoainaaGreatDoor
open Go Go.Proofs Go.RowKit
set_option maxHeartbeats 1000000
theorem qo8(l:List Int)(i j:Nat)(x:Int)(h:i<l.length):((l.set i x)[j]?).getD 0=if j=i then x else (l[j]?).getD 0:=by
 rw[List.getElem?_set]
 by_cases e:i=j
 ·subst e;rw[if_pos rfl,if_pos h,if_pos rfl];rfl
 ·rw[if_neg e,if_neg (Ne.symm e)]
theorem qyy(l:List Int)(t:Int×(Int×Int))(i:Nat)(h1:t.1.toNat<l.length)(h2:t.2.1.toNat<l.length)(hne:t.1.toNat≠t.2.1.toNat):((pay1 l t)[i]?).getD 0=(l[i]?).getD 0+(if i=t.1.toNat then t.2.2 else 0)-if i=t.2.1.toNat then t.2.2 else 0:=by
 unfold pay1
 rw[qo8 _ _ _ _ (by rw[List.length_set];exact h2),qo8 _ _ _ _ h1,qo8 _ _ _ _ h1,if_neg (Ne.symm hne)]
 by_cases e1:i=t.1.toNat
 ·rw[if_pos e1,if_pos e1,if_neg (by rw[e1];exact hne),if_neg (by rw[e1];exact hne),e1];omega
 ·rw[if_neg e1,if_neg e1]
  by_cases e2:i=t.2.1.toNat
  ·rw[if_pos e2,if_pos e2,e2];omega
  ·rw[if_neg e2,if_neg e2];omega
theorem quz:DOk []:=⟨List.nodup_nil,fun p hp=>absurd hp List.not_mem_nil,rfl,fun _ _=>.inl fun p hp=>absurd hp List.not_mem_nil⟩
theorem qyz{d:List Debt}(k:DOk d)(h:d.length≤1):d=[]:=by
 match d,h,k with
 | [],_,_=>rfl
 | [p],_,k =>
  have h1:=k.nz p List.mem_cons_self
  have h2:=k.s0
  rw[qel] at h2
  unfold ws at h2
  simp at h2
  exact absurd h2 h1
theorem qyA{d:List Debt}{ts:List (Int×(Int×Int))}(h:Trs d ts):DOk d→∀l:List Int,(∀p,p∈d→0≤p.1∧p.1<l.length∧(l[p.1.toNat]?).getD 0=p.2) →
  (ts.foldl pay1 l).length=l.length∧(∀p,p∈d→((ts.foldl pay1 l)[p.1.toNat]?).getD 0=0)∧(∀i:Nat,(∀p,p∈d→p.1.toNat≠i)→((ts.foldl pay1 l)[i]?).getD 0=(l[i]?).getD 0)∧∀t,t∈ts→(∃p,p∈d∧p.1=t.1)∧(∃p,p∈d∧p.1=t.2.1)∧t.1≠t.2.1∧1≤t.2.2:=by
 induction h with
 | done d h =>
  intro k l hl
  rw[qyz k h] at hl ⊢
  exact ⟨rfl,fun p hp=>absurd hp List.not_mem_nil,fun i _=>rfl,fun t ht=>absurd ht List.not_mem_nil⟩
 | round d e r x y ts hp hb hr ht ih =>
  intro k l hl
  have k1:=k.perm hp
  have hsg:=qvc k1 fun p h=>hb p (hp.mem_iff.2 h)
  have hn:=k1.nd
  rw[List.map_cons,List.map_cons,List.nodup_cons,List.nodup_cons,List.mem_cons,not_or] at hn
  obtain ⟨⟨n1,n2⟩,n3,n4⟩:=hn
  have hxd:x∈d:=hp.mem_iff.2 List.mem_cons_self
  have hyd:y∈d:=hp.mem_iff.2 (List.mem_cons_of_mem _ List.mem_cons_self)
  have hx:=hl x hxd
  have hy:=hl y hyd
  have hne:x.1.toNat≠y.1.toNat:=by omega
  have kr:DOk r:=by
   rcases qqy k hp hb hr with ⟨h1,_⟩ | ⟨h1,_⟩
   ·rw[h1];exact quz
   ·exact h1
  have hn1:1≤min (-x.2) y.2:=by omega
  clear ht
  generalize min (-x.2) y.2=n at *
  have hat:=fun i=>qyy l (x.1,(y.1,n)) i (by show x.1.toNat<_;omega) (by show y.1.toNat<_;omega) hne
  have hlen:=qqv l (x.1,(y.1,n))
  have hee:∀p,p∈e→p∈d∧p.1.toNat≠x.1.toNat∧p.1.toNat≠y.1.toNat:=fun p hp'=>by
   have hpd:=hp.mem_iff.2 (List.mem_cons_of_mem _ (List.mem_cons_of_mem _ hp'):p∈x::y::e)
   have h1:=hl p hpd
   have h2:p.1≠x.1:=fun e'=>n2 (by rw[← e'];exact List.mem_map_of_mem hp')
   have h3:p.1≠y.1:=fun e'=>n3 (by rw[← e'];exact List.mem_map_of_mem hp')
   exact ⟨hpd,by omega,by omega⟩
  have hr1:∀p,p∈r→(p=(x.1,x.2+n)∨p=(y.1,y.2-n)∨p∈e)∧p.2≠0:=fun p hp'=>by
   have:=hr.mem_iff.1 hp'
   rw[List.mem_filter,List.mem_cons,List.mem_cons] at this
   exact ⟨this.1,by simpa using this.2⟩
  have hl1:∀p,p∈r→0≤p.1∧p.1<(pay1 l (x.1,(y.1,n))).length∧((pay1 l (x.1,(y.1,n)))[p.1.toNat]?).getD 0=p.2:=fun p hp'=>by
   rw[hlen,hat]
   rcases (hr1 p hp').1 with rfl | rfl | h'
   ·refine ⟨hx.1,hx.2.1,?_⟩
    show _+(if x.1.toNat=x.1.toNat then n else 0)-(if x.1.toNat=y.1.toNat then n else 0)=x.2+n
    rw[if_pos rfl,if_neg hne,hx.2.2];omega
   ·refine ⟨hy.1,hy.2.1,?_⟩
    show _+(if y.1.toNat=x.1.toNat then n else 0)-(if y.1.toNat=y.1.toNat then n else 0)=y.2-n
    rw[if_pos rfl,if_neg (Ne.symm hne),hy.2.2];omega
   ·have h2:=hee p h'
    have h3:=hl p h2.1
    refine ⟨h3.1,h3.2.1,?_⟩
    show _+(if p.1.toNat=x.1.toNat then n else 0)-(if p.1.toNat=y.1.toNat then n else 0)=p.2
    rw[if_neg h2.2.1,if_neg h2.2.2,h3.2.2];omega
  obtain ⟨i1,i2,i3,i4⟩:=ih kr (pay1 l (x.1,(y.1,n))) hl1
  have hacc:∀p,p∈r→∃q,q∈d∧q.1=p.1:=fun p hp'=>by
   rcases (hr1 p hp').1 with rfl | rfl | h'
   ·exact ⟨x,hxd,rfl⟩
   ·exact ⟨y,hyd,rfl⟩
   ·exact ⟨p,(hee p h').1,rfl⟩
  refine ⟨?_,fun p hp'=>?_,fun i hi=>?_,fun t ht'=>?_⟩
  ·rw[List.foldl_cons,i1,hlen]
  ·rw[List.foldl_cons]
   by_cases hin:∃q,q∈r∧q.1.toNat=p.1.toNat
   ·obtain ⟨q,q1,q2⟩:=hin
    rw[← q2];exact i2 q q1
   ·rw[i3 p.1.toNat fun q q1 q2=>hin ⟨q,q1,q2⟩,hat]
    have hmem:∀q:Debt,(q=(x.1,x.2+n)∨q=(y.1,y.2-n)∨q∈e)→q.2≠0→q∈r:=fun q h1 h2=>hr.mem_iff.2 (by
     rw[List.mem_filter,List.mem_cons,List.mem_cons]
     exact ⟨h1,by simpa using h2⟩)
    have hpx:=hp.mem_iff.1 hp'
    rcases List.mem_cons.1 hpx with rfl | hpx
    ·have:p.2+n=0:=Decidable.byContradiction fun h0=>hin ⟨(p.1,p.2+n),hmem _ (.inl rfl) h0,rfl⟩
     show _+(if p.1.toNat=p.1.toNat then n else 0)-(if p.1.toNat=y.1.toNat then n else 0)=0
     rw[if_pos rfl,if_neg hne,hx.2.2];omega
    ·rcases List.mem_cons.1 hpx with rfl | hpe
     ·have:p.2-n=0:=Decidable.byContradiction fun h0=>hin ⟨(p.1,p.2-n),hmem _ (.inr (.inl rfl)) h0,rfl⟩
      show _+(if p.1.toNat=x.1.toNat then n else 0)-(if p.1.toNat=p.1.toNat then n else 0)=0
      rw[if_pos rfl,if_neg (Ne.symm hne),hy.2.2];omega
     ·exact absurd ⟨p,hmem p (.inr (.inr hpe)) (k.nz p hp'),rfl⟩ hin
  ·rw[List.foldl_cons,i3 i fun q hq e'=>by
    obtain ⟨q',h1,h2⟩:=hacc q hq
    exact hi q' h1 (by rw[h2];exact e'),hat]
   show _+(if i=x.1.toNat then n else 0)-(if i=y.1.toNat then n else 0)=_
   rw[if_neg (Ne.symm (hi x hxd)),if_neg (Ne.symm (hi y hyd))];omega
  ·rcases List.mem_cons.1 ht' with rfl | ht'
   ·exact ⟨⟨x,hxd,rfl⟩,⟨y,hyd,rfl⟩,Ne.symm n1 |> Ne.symm,hn1⟩
   ·obtain ⟨⟨p,p1,p2⟩,⟨q,q1,q2⟩,h3,h4⟩:=i4 t ht'
    obtain ⟨p',p3,p4⟩:=hacc p p1
    obtain ⟨q',q3,q4⟩:=hacc q q1
    exact ⟨⟨p',p3,by rw[p4,p2]⟩,⟨q',q3,by rw[q4,q2]⟩,h3,h4⟩
end Go.Proofs.YtcjcacbhkoainaaGreatDoor
