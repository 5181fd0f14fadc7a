/- Clubs: the transfers of a group. -/
import Derived.Test.YtcjcacbhkoainaaGreatDoorDv15
set_option linter.constructorNameAsVariable false
set_option linter.unusedSimpArgs false
set_option linter.unusedVariables false
set_option linter.unusedSectionVars false
namespace Go.Proofs.YtcjcacbhkoainaaGreatDoor
open Go Go.Proofs Go.RowKit
set_option maxHeartbeats 1000000
theorem qvg{p q:Nat→Bool}{i:Nat}(hp:p i=true)(hlow:∀j,j<i→p j=false)(hq:∀j,q j=(p j && !decide (i=j))):∀L,i<L→(List.range L).filter p=i::(List.range L).filter q:=by
 intro L
 induction L with
 | zero=>intro h;exact absurd h (Nat.not_lt_zero _)
 | succ L ih =>
  intro h
  rw[List.range_succ,List.filter_append,List.filter_append]
  by_cases e:i=L
  ·subst e
   have h1:(List.range i).filter p=[]:=List.filter_eq_nil_iff.2 fun j hj=>by rw[hlow j (List.mem_range.1 hj)];decide
   have h2:(List.range i).filter q=[]:=List.filter_eq_nil_iff.2 fun j hj=>by rw[hq,hlow j (List.mem_range.1 hj)];simp
   rw[h1,h2,List.filter_cons_of_pos hp,List.filter_cons_of_neg (by rw[hq];simp)]
   rfl
  ·rw[ih (by omega),List.cons_append]
   have:q L=p L:=by rw[hq,decide_eq_false e,Bool.not_false,Bool.and_true]
   rw[List.filter_cons,List.filter_cons,this]
   rfl
theorem qyJ(l:List Int):dl l 0=[]:=by
 unfold dl
 rw[List.filter_eq_nil_iff.2 fun i _=>by rw[Nat.zero_testBit];decide]
 rfl
theorem qwx{l:List Int}{m:Nat}(hm:m<256)(h0:m≠0)(hi:InL l m):dl l m=((lowI m:Int),(l[lowI m]?).getD 0)::dl l (m ^^^ lowN m):=by
 obtain ⟨g1,g2,g3,g4⟩:=qhg m hm h0
 unfold dl
 rw[qvg g2 g4 (q:=(m ^^^ lowN m).testBit) (fun j=>by rw[qG g3,show lowN m=2 ^ lowI m from rfl,qdU]) _ (hi _ g2),List.map_cons]
theorem qyK(n:Nat)(l:List Int)(out:List Stay):∀(k m:Nat) (A:List Debt) (n':Nat),m≤k→m<256→InL l m→m<n'→A.length+m≤1000 →
  qg n' (qe1 n) (l,((m:Int),(out,(A,()))))=some (out,(A++dl l m,())):=by
 intro k
 induction k with
 | zero =>
  intro m A n' hk hm hi hn ha
  obtain ⟨n',rfl⟩:∃j,n'=j+1:=⟨n'-1,by omega⟩
  rw[show m=0 by omega,qw,qgC]
  simp only[show iNe ((0:Nat):Int) 0=false from rfl,cond_false,qyJ,List.append_nil]
 | succ k ih =>
  intro m A n' hk hm hi hn ha
  by_cases h0:m=0
  ·exact ih m A n' (by omega) hm hi hn ha
  obtain ⟨n',rfl⟩:∃j,n'=j+1:=⟨n'-1,by omega⟩
  obtain ⟨g1,g2,g3,g4⟩:=qhg m hm h0
  have hlt:=hi _ g2
  have hd:=qnl m hm h0
  rw[qw,qgC]
  simp only[qkw (show ((m:Nat):Int)≠0 by omega),cond_true,qx6 n m hm h0,Option.bind_some,qjG l hlt,qx4 m hm h0]
  rw[qil (show Nat.ble (nAdd A.length 1) 8796093022208=true by rw[Nat.ble_eq];unfold nAdd;omega)]
  simp only[Option.bind_some]
  have:=ih (m ^^^ lowN m) (A++[((lowI m:Int),l[lowI m])]) n' (by omega) (by omega) (hi.sub (qkn g3)) (by omega) (by rw[List.length_append,List.length_singleton];omega)
  rw[show List.append A [((lowI m:Int),l[lowI m])]=A++[((lowI m:Int),l[lowI m])] from rfl,this,qwx hm h0 hi,List.getElem?_eq_getElem hlt]
  simp
def AmtB(d:List Debt):Prop:=∀p,p∈d→-1000000000≤p.2∧p.2≤1000000000
theorem qvh{R:List Debt}(h:2≤R.length):∃x mid z,R=x::(mid++[z]):=by
 match R,h with
 | x::R,h =>
  have hne:R≠[]:=fun e=>by rw[e] at h;simp at h
  exact ⟨x,R.dropLast,R.getLast hne,by rw[List.dropLast_concat_getLast hne]⟩
theorem qxJ(n:Nat)(hn0:2000≤n):∀(k:Nat) (d:List Debt) (out:List Stay) (n':Nat),d.length≤k→d.length<20→DOk d→AmtB d→k<n'→out.length+d.length≤1000 →
  ∃ts,Trs d ts∧(∀t,t∈ts→t.2.2≤1000000000)∧qg n' (qe2 n) (out,(d,()))=some (out++ts,()):=by
 intro k
 induction k with
 | zero =>
  intro d out n' hk _ hD hA hn ho
  obtain ⟨n',rfl⟩:∃j,n'=j+1:=⟨n'-1,by omega⟩
  refine ⟨[],.done d (by omega),fun t ht=>absurd ht List.not_mem_nil,?_⟩
  rw[qw,qgD]
  simp only[show iGt (d.length:Int) 1=false from decide_eq_false (by omega),cond_false,List.append_nil]
 | succ k ih =>
  intro d out n' hk h20 hD hA hn ho
  obtain ⟨n',rfl⟩:∃j,n'=j+1:=⟨n'-1,by omega⟩
  rw[qw,qgD]
  by_cases h1:d.length≤1
  ·refine ⟨[],.done d h1,fun t ht=>absurd ht List.not_mem_nil,?_⟩
   simp only[show iGt (d.length:Int) 1=false from decide_eq_false (by omega),cond_false,List.append_nil]
  have hp0:((qls [] d).reverse).Perm d:=(List.reverse_perm _).trans ((qro d []).trans (by simp))
  have hsort:((qls [] d).reverse).Pairwise (fun x y=>x.2≤y.2):=List.pairwise_reverse.2 (qpe d List.Pairwise.nil)
  simp only[show iGt (d.length:Int) 1=true from decide_eq_true (by omega),cond_true,qxI n d h20 hn0,Option.bind_some]
  obtain ⟨x,mid,z,hR⟩:=qvh (R:=(qls [] d).reverse) (by rw[hp0.length_eq];omega)
  rw[hR] at hp0 hsort ⊢
  have hlen:=hp0.length_eq
  simp only[List.length_cons,List.length_append,List.length_nil] at hlen
  have hpx:d.Perm (x::z::mid):=hp0.symm.trans ((List.perm_append_singleton z mid).cons x)
  rw[List.pairwise_cons,List.pairwise_append] at hsort
  obtain ⟨s1,s2,s3,s4⟩:=hsort
  have hxz:x.2≤z.2:=s1 z (by simp)
  have hb:∀p,p∈d→x.2≤p.2∧p.2≤z.2:=fun p hp=>by
   rcases List.mem_cons.1 (hpx.mem_iff.1 hp) with rfl | hp
   ·exact ⟨Int.le_refl _,hxz⟩
   ·rcases List.mem_cons.1 hp with rfl | hp
    ·exact ⟨hxz,Int.le_refl _⟩
    ·exact ⟨s1 p (by simp[hp]),s4 p hp z (by simp)⟩
  have hsg:=qvc (hD.perm hpx) fun p hp=>hb p (hpx.mem_iff.2 hp)
  have hx:=hA x (hpx.mem_iff.2 List.mem_cons_self)
  have hz:=hA z (hpx.mem_iff.2 (List.mem_cons_of_mem _ List.mem_cons_self))
  have hn1:iMin (iW (iNeg x.2)) z.2=min (-x.2) z.2:=by
   have hneg:iNeg x.2 = -x.2:=by unfold iNeg;omega
   rw[hneg,show iW (-x.2) = -x.2 from qgM (by omega) (by omega)]
   unfold iMin
   split<;>omega
  have hl1:iW (iSub ((x::(mid++[z])).length:Int) 1)=((mid.length+1:Nat):Int):=by
   rw[show (x::(mid++[z])).length=mid.length+1+1 by simp]
   exact quv (by omega)
  have e1:lat (x::(mid++[z])) (0:Int)=some x:=rfl
  have e3:(x::(mid++[z]))[mid.length+1]?=some z:=by rw[List.getElem?_cons_succ];simp
  have e2:lat (x::(mid++[z])) ((mid.length+1:Nat):Int)=some z:=by
   unfold lat
   rw[if_pos (by omega),Int.toNat_natCast,e3]
  have e4:(x::(mid++[z]))[(0:Int).toNat]?=some x:=rfl
  generalize hnn:min (-x.2) z.2=m at *
  have hm1:m≤z.2∧m≤-x.2∧0<m:=by omega
  have hxm:iW (iAdd x.2 m)=x.2+m:=qgM (by unfold iAdd;omega) (by unfold iAdd;omega)
  have hzm:iW (iSub z.2 m)=z.2-m:=qgM (by unfold iSub;omega) (by unfold iSub;omega)
  have e5:((x::(mid++[z])).set (0:Int).toNat (x.1,x.2+m))=(x.1,x.2+m)::(mid++[z]):=rfl
  have e6:((x.1,x.2+m)::(mid++[z]))[mid.length+1]?=some z:=by rw[List.getElem?_cons_succ];simp
  have e7:((x.1,x.2+m)::(mid++[z])).set (mid.length+1) (z.1,z.2-m)=(x.1,x.2+m)::(mid++[(z.1,z.2-m)]):=by rw[List.set_cons_succ];simp
  simp only[hl1,e1,e2,e4,Int.toNat_natCast,e3,Option.bind_some,hn1,hxm,e5,e6,hzm,e7]
  rw[qil (show Nat.ble (nAdd out.length 1) 5864062014805=true by rw[Nat.ble_eq];unfold nAdd;omega)]
  simp only[Option.bind_some]
  obtain ⟨X,q,hX,hq,hXf⟩:=qvf n ((x.1,x.2+m)::(mid++[(z.1,z.2-m)])) (by simp;omega) hn0
  simp only[hX,Option.bind_some,show Nat.beq 0 0=true from rfl,cond_true,show Nat.ble q X.length=true by rw[Nat.ble_eq];exact hq,hXf]
  have hr:(((x.1,x.2+m)::(mid++[(z.1,z.2-m)])).filter nzB).Perm (((x.1,x.2+m)::(z.1,z.2-m)::mid).filter fun p=>!decide (p.2=0)):=((List.perm_append_singleton (z.1,z.2-m) mid).cons (x.1,x.2+m)).filter nzB
  generalize ((x.1,x.2+m)::(mid++[(z.1,z.2-m)])).filter nzB=r at *
  have hr':r.Perm (((x.1,x.2+min (-x.2) z.2)::(z.1,z.2-min (-x.2) z.2)::mid).filter fun p=>!decide (p.2=0)):=by rw[hnn];exact hr
  have hok:=qqy hD hpx hb hr'
  have hDr:DOk r:=by
   rcases hok with ⟨h,_⟩ | ⟨h,_⟩
   ·rw[h];exact quz
   ·exact h
  have hrl:r.length≤k∧r.length+1≤d.length:=by
   rcases hok with ⟨h,h'⟩ | ⟨_,h',_⟩
   ·rw[h];simp;omega
   ·omega
  have hAr:AmtB r:=fun p hp=>by
   have:=hr.mem_iff.1 hp
   rw[List.mem_filter,List.mem_cons,List.mem_cons] at this
   rcases this.1 with h | h | h
   ·rw[h];show _≤x.2+m∧x.2+m≤_;omega
   ·rw[h];show _≤z.2-m∧z.2-m≤_;omega
   ·exact hA p (hpx.mem_iff.2 (List.mem_cons_of_mem _ (List.mem_cons_of_mem _ h)))
  obtain ⟨ts,t1,t2,t3⟩:=ih r (out++[(x.1,(z.1,m))]) n' hrl.1 (by omega) hDr hAr (by omega) (by rw[List.length_append,List.length_singleton];omega)
  refine ⟨(x.1,(z.1,m))::ts,?_,fun t ht=>?_,?_⟩
  ·have:=Trs.round d mid r x z ts hpx hb hr' t1
   rwa [hnn] at this
  ·rcases List.mem_cons.1 ht with rfl | ht
   ·show m≤_;omega
   ·exact t2 t ht
  ·rw[show List.append out [(x.1,(z.1,m))]=out++[(x.1,(z.1,m))] from rfl,t3]
   simp
end Go.Proofs.YtcjcacbhkoainaaGreatDoor
