/- Clubs, plain: the parts differ from the exact shares by less than 1, and add up. -/
import Derived.Test.YtlmicgmhallkkaaGreatDoorDk0
import Derived.Test.YtlmicgmhallkkaaGreatDoorPd
import Derived.Test.YtlmicgmhallkkaaGreatDoorDw3
set_option linter.constructorNameAsVariable false
set_option linter.unusedSimpArgs false
set_option linter.unusedVariables false
set_option linter.unusedSectionVars false
namespace Go.Proofs.YtlmicgmhallkkaaGreatDoor
open Go Go.Proofs Go.RowKit
set_option maxHeartbeats 1000000
theorem qvf{l m:List Int}(h:l.Perm m):l.sum=m.sum:=by
 induction h with
 | nil=>rfl
 | cons x _ ih=>simp[ih]
 | swap x y l=>simp;omega
 | trans _ _ h1 h2=>exact h1.trans h2
theorem qt6:∀(o p:List Int) (j:Nat),o.Nodup→(∀x,x∈o→0≤x)→j<p.length→((o.foldl qgW p)[j]?).getD 0=(p[j]?).getD 0+(if (j:Int)∈o then 1 else 0)
 | [],p,j,_,_,_=>by simp
 | i::o,p,j,hn,h0,hj=>by
  rw[List.nodup_cons] at hn
  rw[List.foldl_cons,qt6 o (qgW p i) j hn.2 (fun x hx=>h0 x (List.mem_cons_of_mem _ hx)) (by rw[qkH];exact hj)]
  obtain ⟨k,rfl⟩:=Int.eq_ofNat_of_zero_le (h0 i List.mem_cons_self)
  unfold qgW
  rw[Int.toNat_natCast,List.getElem?_set]
  by_cases hk:k=j
  ·subst hk
   rw[if_pos rfl,if_pos hj,if_neg hn.1]
   simp
  ·rw[if_neg hk]
   have:((j:Int)∈(k:Int)::o)↔(j:Int)∈o:=by
    rw[List.mem_cons]
    constructor
    ·rintro (h | h)
     ·omega
     ·exact h
    ·exact .inr
   by_cases hm:(j:Int)∈o
   ·rw[if_pos hm,if_pos (this.2 hm)]
   ·rw[if_neg hm,if_neg fun h=>hm (this.1 h)]
theorem qss:∀(o p:List Int),(∀x,x∈o→0≤x∧x<p.length)→(o.foldl qgW p).sum=p.sum+o.length
 | [],p,_=>by simp
 | i::o,p,h0=>by
  obtain ⟨k,rfl⟩:=Int.eq_ofNat_of_zero_le (h0 i List.mem_cons_self).1
  have hk:=(h0 _ List.mem_cons_self).2
  have hk':k<p.length:=by omega
  rw[List.foldl_cons,qss o (qgW p (k:Int)) (fun x hx=>by rw[qkH];exact h0 x (List.mem_cons_of_mem _ hx))]
  unfold qgW
  rw[Int.toNat_natCast,qsq _ _ _ hk',List.getElem?_eq_getElem hk',Option.getD_some,List.length_cons]
  omega
theorem qrJ{α:Type}{f:α→Int}{c:Int}:∀{L:List α},(∀y,y∈L→f y≤c)→(L.map f).sum≤c*L.length
 | [],_=>by simp
 | y::L,h=>by
  have:=qrJ (L:=L) fun z hz=>h z (List.mem_cons_of_mem _ hz)
  have h1:=h y List.mem_cons_self
  rw[List.map_cons,List.sum_cons,List.length_cons,Int.natCast_add,Int.mul_add]
  simp
  omega
theorem qvB(a:Int)(l:List Int)(x:Int):0≤rS a l x∧rS a l x≤99:=by unfold rS;omega
theorem qst(a:Int):∀l:List Int,(l.map fun x=>a*x % 100).sum=a*l.sum-100*(l.map (qS a)).sum
 | []=>by simp
 | x::l=>by
  rw[List.map_cons,List.sum_cons,qst a l,List.map_cons,List.sum_cons,List.sum_cons,Int.mul_add]
  have:qS a x=a*x/100:=rfl
  omega
theorem qwo(a:Int)(l:List Int):(idxL l.length).map (rS a l)=l.map fun x=>a*x % 100:=by
 unfold idxL
 rw[List.map_map]
 refine List.ext_getElem (by simp) fun i h1 h2=>?_
 have h3:i<l.length:=by simpa using h2
 simp only[List.getElem_map,List.getElem_range,Function.comp]
 unfold rS
 rw[Int.toNat_natCast,List.getElem?_eq_getElem h3]
 rfl
theorem qt7{a:Int}{l:List Int}(ha:0≤a∧a≤1000000000000)(hl:∀x,x∈l→0≤x∧x≤100)(hs:l.sum=100):((ordS a l).map (rS a l)).sum=100*(qgq a l:Int):=by
 rw[qvf ((qkG a l).map (rS a l)),qwo,qst,hs,← (qpS ha hl hs).1]
 omega
theorem qv7{a:Int}{l:List Int}(ha:0≤a∧a≤1000000000000)(hl:∀x,x∈l→0≤x∧x≤100)(hs:l.sum=100){x:Int}(hx:x∈(ordS a l).take (qgq a l)):0<rS a l x:=by
 have ht:=qt7 ha hl hs
 obtain ⟨k,hk,rfl⟩:=List.mem_iff_getElem.1 hx
 rw[List.length_take] at hk
 have hk1:k<qgq a l:=by omega
 have hk2:k<(ordS a l).length:=by omega
 rw[List.getElem_take]
 have h0:=qvB a l (ordS a l)[k]
 refine Decidable.byContradiction fun hh=>?_
 have he:rS a l (ordS a l)[k]=0:=by omega
 have e:((ordS a l).map (rS a l)).sum=(((ordS a l).take k).map (rS a l)).sum+(((ordS a l).drop k).map (rS a l)).sum:=by
  rw[← List.sum_append,← List.map_append,List.take_append_drop]
 have h1:(((ordS a l).take k).map (rS a l)).sum≤99*((ordS a l).take k).length:=qrJ fun y _=>(qvB a l y).2
 have h2:(((ordS a l).drop k).map (rS a l)).sum≤0*((ordS a l).drop k).length:=qrJ fun y hy=>by
  have hsd:=(qrZ a l).sublist (List.drop_sublist k _)
  rw[List.drop_eq_getElem_cons hk2] at hy hsd
  rw[List.pairwise_cons] at hsd
  rcases List.mem_cons.1 hy with rfl | hy
  ·omega
  ·rcases hsd.1 y hy with h | h<;>omega
 rw[List.length_take] at h1
 have:((min k (ordS a l).length:Nat):Int)=k:=by omega
 rw[this] at h1
 omega
theorem qpT(a:Int)(l:List Int)(k:Nat):((ordS a l).take k).Nodup∧∀x,x∈(ordS a l).take k→0≤x∧x<l.length :=
 ⟨(qs4 a l).sublist (List.take_sublist _ _),fun x hx=>qrI.1 (List.mem_of_mem_take hx)⟩
theorem qmf(a:Int)(l:List Int):(qbP a l).length=l.length:=by unfold qbP;rw[qsr,List.length_map]
theorem qs5{a:Int}{l:List Int}(ha:0≤a∧a≤1000000000000)(hl:∀x,x∈l→0≤x∧x≤100)(hs:l.sum=100):(qbP a l).sum=a:=by
 obtain ⟨h1,h2⟩:=qpS ha hl hs
 unfold qbP
 rw[qss _ _ fun x hx=>by rw[List.length_map];exact (qpT a l _).2 x hx,List.length_take,qoD]
 have:((min (qgq a l) l.length:Nat):Int)=qgq a l:=by omega
 rw[this]
 omega
theorem qt8{a:Int}{l:List Int}{j:Nat}(hj:j<l.length)(hj':j<(qbP a l).length):(qbP a l)[j]=qS a l[j]+(if (j:Int)∈(ordS a l).take (qgq a l) then 1 else 0):=by
 have h:=qt6 ((ordS a l).take (qgq a l)) (l.map (qS a)) j (qpT a l _).1 (fun x hx=>((qpT a l _).2 x hx).1) (by rw[List.length_map];exact hj)
 have e1:((qbP a l)[j]?).getD 0=(qbP a l)[j]:=by rw[List.getElem?_eq_getElem hj'];rfl
 have e2:((l.map (qS a))[j]?).getD 0=qS a l[j]:=by rw[List.getElem?_map,List.getElem?_eq_getElem hj];rfl
 rw[e2] at h
 rw[← e1]
 exact h
theorem qsu{a:Int}{l:List Int}(ha:0≤a∧a≤1000000000000)(hl:∀x,x∈l→0≤x∧x≤100)(hs:l.sum=100){j:Nat}(hj:j<l.length)(hj':j<(qbP a l).length):0≤(qbP a l)[j]∧(qbP a l)[j]≤1000000000001∧-100<100*(qbP a l)[j]-a*l[j]∧100*(qbP a l)[j]-a*l[j]<100:=by
 have hq:=qqJ ha (hl _ (List.getElem_mem hj))
 rw[qt8 hj hj']
 split
 ·rename_i hm
  have:=qv7 ha hl hs hm
  unfold rS at this
  rw[Int.toNat_natCast,List.getElem?_eq_getElem hj,Option.getD_some] at this
  have hqq:qS a l[j]=a*l[j]/100:=rfl
  omega
 ·omega
theorem qt9{l:List Int}(h:shB l=true):(∀x,x∈l→0≤x∧x≤100)∧l.sum=100:=by
 unfold shB at h
 rw[Bool.and_eq_true,List.all_eq_true,decide_eq_true_eq] at h
 exact ⟨fun x hx=>qjP.1 (h.1 x hx),h.2⟩
theorem qvg(n:Nat)(a:Int)(l:List Int)(hl:l.length≤1000)(hn:2000≤n):qjq n (a,(l,()))=some (if (wi a 0 1000000000&&(wi (l.length:Int) 1 6&&shB l))=true then (qbP a l,(0,())) else ([],(1,()))):=by
 rw[qoB]
 simp only[qme,Option.bind_some]
 cases h1:wi a 0 1000000000 with
 | false=>rfl
 | true =>
  simp only[Bool.not_true,cond_false,Int.ofNat_eq_natCast,Bool.true_and]
  cases h2:wi (l.length:Int) 1 6 with
  | false=>rfl
  | true =>
   simp only[Bool.not_true,cond_false,qs2 n l hl hn,Option.bind_some,Bool.true_and]
   cases h3:shB l with
   | false=>rfl
   | true =>
    obtain ⟨h4,h5⟩:=qt9 h3
    have h6:=qjP.1 h1
    have h7:=qjP.1 h2
    simp only[Bool.not_true,cond_false,qvc n a l ⟨h6.1,by omega⟩ h4 h5 (by omega) hn,Option.bind_some,if_true]
theorem qwp(n:Nat)(a:Int)(l:List Int)(ha:0≤a∧a≤1000000000)(hl:∀x,x∈l→0≤x∧x≤100)(hs:l.sum=100)(hL:l.length≤20):∀(B A:List Int) (n':Nat),qbP a l=A++B→B.length<n' →
  qt n' (qcN n) (a,(l,(qbP a l,(A.sum,((A.length:Int),())))))=some (.inl (a,(a,()))):=by
 intro B
 induction B with
 | nil =>
  intro A n' e hn'
  obtain ⟨n',rfl⟩:∃j,n'=j+1:=⟨n'-1,by simp at hn';omega⟩
  rw[List.append_nil] at e
  rw[qck,qfF]
  simp only[e,qlx,cond_false]
  rw[← e,qs5 ⟨ha.1,by omega⟩ hl hs]
 | cons x B ih =>
  intro A n' e hn'
  obtain ⟨n',rfl⟩:∃j,n'=j+1:=⟨n'-1,by simp at hn';omega⟩
  have hlen:(qbP a l).length=A.length+(B.length+1):=by rw[e,List.length_append,List.length_cons]
  have hll:=qmf a l
  have hlt:A.length<(qbP a l).length:=by omega
  have hlt':A.length<l.length:=by omega
  have hx:lat (qbP a l) (A.length:Int)=some x:=by rw[e];exact latA A B x rfl
  have hxx:(qbP a l)[A.length]=x:=by
   have:=(qmO hx).2
   rw[Int.toNat_natCast,List.getElem?_eq_getElem hlt] at this
   injection this
  obtain ⟨b1,b2,b3,b4⟩:=qsu (a:=a) (l:=l) ⟨ha.1,by omega⟩ hl hs hlt' hlt
  rw[hxx] at b1 b2 b3 b4
  have hv:=hl _ (List.getElem_mem hlt')
  have hm:=qs3 ha.1 ha.2 hv.1 hv.2
  have hsum:∀(k:Nat),k≤(qbP a l).length→0≤((qbP a l).take k).sum∧((qbP a l).take k).sum≤1000000000001*k:=fun k=>by
   induction k with
   | zero=>intro _;simp
   | succ k ih =>
    intro hk
    have:=ih (by omega)
    have hk':k<(qbP a l).length:=by omega
    obtain ⟨c1,c2,_⟩:=qsu (a:=a) (l:=l) ⟨ha.1,by omega⟩ hl hs (show k<l.length by omega) hk'
    rw[List.take_succ_eq_append_getElem hk',List.sum_append]
    simp
    omega
  have hA:=hsum A.length (by omega)
  rw[e,List.take_left] at hA
  rw[qck,qfF]
  simp only[qlw hlt,cond_true,hx,qlv l hlt',Option.bind_some]
  rw[show iW (iSub (iW (iMul 100 x)) (iW (iMul a l[A.length])))=100*x-a*l[A.length] by
   rw[show iW (iMul 100 x)=100*x from qgV (by unfold iMul;omega) (by unfold iMul;omega),show iW (iMul a l[A.length])=a*l[A.length] from qgV (by unfold iMul;omega) (by unfold iMul;omega)]
   exact qgV (by unfold iSub;omega) (by unfold iSub;omega)]
  rw[show iLe (100*x-a*l[A.length]) (Int.negSucc 99)=false from decide_eq_false (by omega),show iGe (100*x-a*l[A.length]) 100=false from decide_eq_false (by omega)]
  simp only[cond_false,qiN (show A.length<9223372036854775807 by omega)]
  rw[show iW (iAdd A.sum x)=(A++[x]).sum by
   rw[qgV (by unfold iAdd;omega) (by unfold iAdd;omega),List.sum_append]
   simp[iAdd]]
  have:=ih (A++[x]) n' (by rw[e];simp) (by simp at hn';omega)
  rw[List.length_append] at this
  exact this
theorem qvh(n:Nat)(a:Int)(l:List Int)(hn:l.length+9000≤n):qc7 n (a,(l,()))=some (true,()):=by
 have hw:=qv6 n (by omega)
 rw[qiM]
 simp only[hw,Option.bind_some]
 by_cases h0:a<0
 ·rw[show iLt a 0=true from decide_eq_true h0];rfl
 rw[show iLt a 0=false from decide_eq_false h0]
 by_cases h1:a>1000000000
 ·rw[show iGt a 1000000000=true from decide_eq_true h1];rfl
 rw[show iGt a 1000000000=false from decide_eq_false h1]
 by_cases h2:l.length>20
 ·rw[show iGt (l.length:Int) 20=true from decide_eq_true (by omega)];rfl
 rw[show iGt (l.length:Int) 20=false from decide_eq_false (by omega)]
 simp only[cond_false,qrF n l (by omega) (by omega),Option.bind_some]
 cases h3:shB l&&wi (l.length:Int) 1 6 with
 | false=>rfl
 | true =>
  rw[Bool.and_eq_true] at h3
  obtain ⟨h4,h5⟩:=qt9 h3.1
  simp only[Bool.not_true,cond_false,qvg n a l (by omega) (by omega),Option.bind_some]
  rw[if_pos (by rw[h3.1,h3.2,qjP.2 ⟨by omega,by omega⟩];rfl)]
  simp only[qpq rfl,cond_false,qmf]
  have:=qwp n a l ⟨by omega,by omega⟩ h4 h5 (by omega) (qbP a l) [] n rfl (by rw[qmf];omega)
  have h6:qt n (qcN n) (a,(l,(qbP a l,((0:Int),((0:Int),())))))=some (.inl (a,(a,()))):=this
  rw[h6]
  simp only[Option.bind_some,Sum.elim_inl,qnG rfl,cond_true]
end Go.Proofs.YtlmicgmhallkkaaGreatDoor
