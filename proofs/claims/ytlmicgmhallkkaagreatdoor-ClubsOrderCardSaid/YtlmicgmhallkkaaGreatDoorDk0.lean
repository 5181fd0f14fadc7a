/- Clubs, plain: an amount is split, part by part. -/
import Derived.Test.YtlmicgmhallkkaaGreatDoorPe
set_option linter.constructorNameAsVariable false
set_option linter.unusedSimpArgs false
set_option linter.unusedVariables false
set_option linter.unusedSectionVars false
namespace Go.Proofs.YtlmicgmhallkkaaGreatDoor
open Go Go.Proofs Go.RowKit
set_option maxHeartbeats 1000000
def rS(a:Int)(l:List Int)(i:Int):Int:=a*(l[i.toNat]?).getD 0 % 100
def insV(a:Int)(l:List Int)(v:Int):List Int→List Int
 | []=>[v]
 | x::Q=>if rS a l x<rS a l v then x::insV a l v Q else v::x::Q
theorem qG1{a:Int}{l:List Int}{v x:Int}{Q:List Int}(h:rS a l x<rS a l v):insV a l v (x::Q)=x::insV a l v Q:=if_pos h
theorem qG2{a:Int}{l:List Int}{v x:Int}{Q:List Int}(h:¬rS a l x<rS a l v):insV a l v (x::Q)=v::x::Q:=if_neg h
theorem qGl{a:Int}{l:List Int}{i:Int}{v:Int}(h:lat l i=some v):rS a l i=a*v % 100:=by
 obtain ⟨h0,h1⟩:=qxd h
 unfold rS
 rw[h1];rfl
theorem qzp{a v:Int}(ha:0≤a∧a≤1000000000000)(hv:0≤v∧v≤100):Int.tmod (iW (iMul a v)) 100=a*v % 100:=by
 have h:=quc ha.1 ha.2 hv.1 hv.2
 rw[show iW (iMul a v)=a*v from qbg (by unfold iMul;omega) (by unfold iMul;omega),Int.tmod_eq_emod_of_nonneg h.1]
theorem qG3(n:Nat)(l:List Int)(a x y v w:Int)(ha:0≤a∧a≤1000000000000)(hl:∀x,x∈l→0≤x∧x≤100)(hx:lat l x=some v)(hy:lat l y=some w):qnF n (x,(y,(a,(l,()))))=some (cmpI (rS a l y) (rS a l x),(a,(l,()))):=by
 have h1:=hl v (List.mem_of_getElem? (qxd hx).2)
 have h2:=hl w (List.mem_of_getElem? (qxd hy).2)
 rw[quK]
 simp only[hx,hy,Option.bind_some,qvV,show qI (iNe (100:Int) (0:Int))=some () from rfl,qzp ha h1,qzp ha h2,qGl hx,qGl hy]
theorem qG4(u v:Int):iLt (cmpI u v) 0=decide (u<v):=by
 rcases qub u v with ⟨e,h⟩ | ⟨e,h⟩ | ⟨e,h⟩<;>rw[e]<;>unfold iLt<;>simp<;>omega
theorem qHM(n:Nat)(l:List Int)(a:Int)(ha:0≤a∧a≤1000000000000)(hl:∀x,x∈l→0≤x∧x≤100)(b i v:Int):∀(Q B:List Int) (m:Nat),InR l.length (v::Q)→Q.length<1000→Q.length<m →
  qb m (qcp n) ((0:Int),(b,(i,((Q.length:Int),(Q.reverse++v::B,(a,(l,())))))))=some ((0:Int),(b,(i,((insV a l v Q).reverse++B,(a,(l,())))))):=by
 intro Q
 induction Q with
 | nil =>
  intro B m hd hl0 hm
  obtain ⟨m,rfl⟩:∃j,m=j+1:=⟨m-1,by simp at hm;omega⟩
  rw[qe,qd9]
  rfl
 | cons x Q ih =>
  intro B m hd hl0 hm
  obtain ⟨m,rfl⟩:∃j,m=j+1:=⟨m-1,by simp at hm;omega⟩
  simp only[List.length_cons] at hl0 hm
  rw[qe,qd9]
  have hd0:(x::Q).reverse++v::B=Q.reverse++x::v::B:=by simp
  have hd1:(x::Q).reverse++v::B=(Q.reverse++[x])++v::B:=by simp
  have hQ:Q.reverse.length=Q.length:=List.length_reverse
  have hQ1:(Q.reverse++[x]).length=Q.length+1:=by simp
  have lt:∀y,y∈v::x::Q→∃w,lat l y=some w:=fun y hy=>by
   have:=hd y hy
   obtain ⟨k,hk⟩:=Int.eq_ofNat_of_zero_le this.1
   rw[hk] at this ⊢
   exact ⟨_,qA l (show k<l.length by omega)⟩
  obtain ⟨wv,hwv⟩:=lt v (by simp)
  obtain ⟨wx,hwx⟩:=lt x (by simp)
  have e1:lat ((x::Q).reverse++v::B) ((Q.length+1:Nat):Int)=some v:=by rw[hd1];exact latA _ _ _ hQ1
  have e2:lat ((x::Q).reverse++v::B) (Q.length:Int)=some x:=by rw[hd0];exact latA _ _ _ hQ
  have e3:((x::Q).reverse++v::B)[Q.length+1]?=some v:=by rw[hd1];exact getA _ _ _ hQ1
  have e4:((x::Q).reverse++v::B)[Q.length]?=some x:=by rw[hd0];exact getA _ _ _ hQ
  have e5:((x::Q).reverse++v::B).set (Q.length+1) x=(Q.reverse++[x])++x::B:=by rw[hd1];exact setA _ _ _ _ hQ1
  have e6:(Q.reverse++[x])++x::B=Q.reverse++x::x::B:=by simp
  have hpos:iGt ((Q.length+1:Nat):Int) 0=true:=decide_eq_true (by omega)
  simp only[List.length_cons,hpos,cond_true,qn6 (show Q.length<9223372036854775807 by omega),e1,e2,e3,e4,Option.bind_some,Int.toNat_natCast,qG3 n l a v x wv wx ha hl hwv hwx,qG4]
  by_cases hlt:rS a l x<rS a l v
  ·rw[show decide (rS a l x<rS a l v)=true from decide_eq_true hlt]
   simp only[cond_true,e5]
   rw[e6]
   simp only[latA _ _ _ hQ,getA _ _ _ hQ,setA _ _ _ _ hQ,Option.bind_some]
   have:=ih (x::B) m (fun y hy=>hd y (by rcases List.mem_cons.1 hy with h | h;simp[h];simp[h])) (by omega) (by omega)
   rw[this,qG1 hlt]
   simp
  ·rw[show decide (rS a l x<rS a l v)=false from decide_eq_false hlt]
   simp only[cond_false]
   rw[qG2 hlt]
   simp
def qqY(a:Int)(l:List Int)(Q B:List Int):List Int:=B.foldl (fun Q v=>insV a l v Q) Q
theorem qvD(a:Int)(l:List Int)(v:Int):∀Q:List Int,(insV a l v Q).Perm (v::Q)
 | []=>List.Perm.refl _
 | x::Q=>by
  unfold insV
  split
  ·exact ((qvD a l v Q).cons x).trans (List.Perm.swap _ _ _)
  ·exact List.Perm.refl _
theorem qHN(n:Nat)(l:List Int)(a:Int)(ha:0≤a∧a≤1000000000000)(hl:∀x,x∈l→0≤x∧x≤100)(L:Nat)(hL:L<1000)(hn:2000≤n):∀(B Q:List Int) (m:Nat),InR l.length (Q++B)→Q.length+B.length=L→B.length<m →
  qb m (qbl n) ((0:Int),((L:Int),((Q.length:Int),(Q.reverse++B,(a,(l,()))))))=some ((qqY a l Q B).reverse,(a,(l,()))):=by
 intro B
 induction B with
 | nil =>
  intro Q m hd hk hm
  obtain ⟨m,rfl⟩:∃j,m=j+1:=⟨m-1,by simp at hm;omega⟩
  rw[qe,qb5]
  simp only[show iLt (Q.length:Int) (L:Int)=false from decide_eq_false (by simp at hk;omega),cond_false,List.append_nil]
  rfl
 | cons v B ih =>
  intro Q m hd hk hm
  obtain ⟨m,rfl⟩:∃j,m=j+1:=⟨m-1,by simp at hm;omega⟩
  simp only[List.length_cons] at hk hm
  rw[qe,qb5]
  have h1:=qHM n l a ha hl (L:Int) (Q.length:Int) v Q B n (fun y hy=>hd y (by rcases List.mem_cons.1 hy with h | h;simp[h];simp[h])) (by omega) (by omega)
  simp only[show iLt (Q.length:Int) (L:Int)=true from decide_eq_true (by omega),cond_true,h1,Option.bind_some,qj (show Q.length<9223372036854775807 by omega)]
  have hp:=qvD a l v Q
  have hlen:(insV a l v Q).length=Q.length+1:=by rw[hp.length_eq];simp
  have:=ih (insV a l v Q) m (fun y hy=>hd y (by
   rcases List.mem_append.1 hy with h | h
   ·rcases List.mem_cons.1 (hp.mem_iff.1 h) with h | h
    ·simp[h]
    ·simp[h]
   ·simp[h])) (by omega) (by omega)
  rw[hlen] at this
  exact this
theorem qFO(n:Nat)(l d:List Int)(a:Int)(ha:0≤a∧a≤1000000000000)(hl:∀x,x∈l→0≤x∧x≤100)(hd:InR l.length d)(hdl:d.length<20)(hn:2000≤n):qdz n (d,(a,(l,())))=some ((qqY a l [] d).reverse,(a,(l,()))):=by
 have h3:qb n (qbl n) ((0:Int),((d.length:Int),(((1:Nat):Int),(d,(a,(l,()))))))=some ((qqY a l [] d).reverse,(a,(l,()))):=by
  cases d with
  | nil =>
   obtain ⟨m,rfl⟩:∃m,n=m+1:=⟨n-1,by omega⟩
   rw[qe,qb5]
   rfl
  | cons x d=>exact qHN n l a ha hl (d.length+1) (by simp at hdl;omega) hn d [x] n hd (by simp;omega) (by simp at hdl;omega)
 obtain ⟨n,rfl⟩:∃m,n=m+1:=⟨n-1,by omega⟩
 rw[qjP,qj0]
 simp only[qe]
 rw[qjq]
 simp only[show iLe (20:Int) (d.length:Int)=false from decide_eq_false (by omega),cond_false,Option.bind_some,qh5]
 rw[show iW (iAdd (0:Int) 1)=((1:Nat):Int) from rfl,h3]
 simp only[Option.bind_some]
 rw[qjr]
 simp only[show iLt (20:Int) (d.length:Int)=false from decide_eq_false (by omega),cond_false,Option.bind_some]
theorem qxZ(a:Int)(l:List Int):∀(B Q:List Int),(qqY a l Q B).Perm (Q++B)
 | [],Q=>by unfold qqY;simp
 | v::B,Q=>by
  have:=qxZ a l B (insV a l v Q)
  refine this.trans (((qvD a l v Q).append_right B).trans ?_)
  exact (List.perm_middle (a:=v) (l₁:=Q) (l₂:=B)).symm
def idxL(k:Nat):List Int:=(List.range k).map fun i:Nat=>(i:Int)
theorem qEh(k:Nat):idxL (k+1)=idxL k++[(k:Int)]:=by unfold idxL;rw[List.range_succ,List.map_append];rfl
theorem qw2(k:Nat):(idxL k).length=k:=by unfold idxL;simp
theorem qAZ{k:Nat}{x:Int}:x∈idxL k↔0≤x∧x<k:=by
 unfold idxL
 rw[List.mem_map]
 constructor
 ·rintro ⟨i,hi,rfl⟩
  have:=List.mem_range.1 hi
  omega
 ·intro h
  exact ⟨x.toNat,List.mem_range.2 (by omega),by omega⟩
def ordS(a:Int)(l:List Int):List Int:=(qqY a l [] (idxL l.length)).reverse
theorem qzq(a:Int)(l:List Int):(ordS a l).Perm (idxL l.length):=by
 unfold ordS
 exact (List.reverse_perm _).trans (by simpa using qxZ a l (idxL l.length) [])
theorem qA0(a:Int)(l:List Int):(ordS a l).length=l.length:=by rw[(qzq a l).length_eq,qw2]
theorem qFP{a:Int}{l:List Int}{x:Int}:x∈ordS a l↔0≤x∧x<l.length:=by rw[(qzq a l).mem_iff,qAZ]
def qso(p:List Int)(i:Int):List Int:=p.set i.toNat ((p[i.toNat]?).getD 0+1)
def qsp(a:Int)(l:List Int):Nat:=(a-(l.map (qS a)).sum).toNat
def qts(a:Int)(l:List Int):List Int:=((ordS a l).take (qsp a l)).foldl qso (l.map (qS a))
theorem qG5(n:Nat)(a:Int)(l:List Int)(ha:0≤a∧a≤1000000000000)(hl:∀x,x∈l→0≤x∧x≤100)(hL:l.length<20):∀(B A:List Int) (n':Nat),l=A++B→B.length<n' →
  qb n' (ql0 n) (a-(A.map (qS a)).sum,(l,((l.length:Int),((A.length:Int),(a,(l,(A.map (qS a)++List.replicate B.length 0,(idxL A.length++List.replicate B.length 0,()))))))))=some (a-(l.map (qS a)).sum,(a,(l,(l.map (qS a),(idxL l.length,()))))):=by
 intro B
 induction B with
 | nil =>
  intro A n' e hn'
  obtain ⟨n',rfl⟩:∃j,n'=j+1:=⟨n'-1,by simp at hn';omega⟩
  rw[List.append_nil] at e
  subst e
  rw[qe,qqa]
  simp only[qw,cond_false,List.length_nil,List.replicate_zero,List.append_nil]
 | cons x B ih =>
  intro A n' e hn'
  obtain ⟨n',rfl⟩:∃j,n'=j+1:=⟨n'-1,by simp at hn';omega⟩
  have hlen:l.length=A.length+(B.length+1):=by rw[e,List.length_append,List.length_cons]
  have hlt:A.length<l.length:=by omega
  have hx:=hl x (by rw[e];simp)
  have hq:=qCQ ha hx
  have hA:=qyD ha A fun y hy=>hl y (by rw[e];simp[hy])
  have hAq:(A.map (qS a)).length=A.length:=List.length_map _
  have ho:(idxL A.length).length=A.length:=qw2 _
  rw[qe,qqa]
  rw[List.length_cons,List.replicate_succ]
  have hlat:lat l (A.length:Int)=some x:=by rw[e];exact latA A B x rfl
  simp only[qu hlt,cond_true,hlat,Option.bind_some,show qI (iNe (100:Int) (0:Int))=some () from rfl,latA _ _ _ hAq,getA _ _ _ hAq,setA _ _ _ _ hAq,latA _ _ _ ho,getA _ _ _ ho,setA _ _ _ _ ho,Int.toNat_natCast,hq.2.2.2.2,qj (show A.length<9223372036854775807 by omega)]
  rw[show iW (iSub (a-(A.map (qS a)).sum) (qS a x))=a-((A++[x]).map (qS a)).sum by
   rw[qbg (by unfold iSub;omega) (by unfold iSub;omega),List.map_append,List.sum_append]
   simp[iSub]
   omega]
  have:=ih (A++[x]) n' (by rw[e];simp) (by simp at hn';omega)
  rw[List.length_append,List.map_append,show A.length+[x].length=A.length+1 from rfl,qEh] at this
  rw[List.map_append]
  simpa using this
theorem qzr(p:List Int)(i:Int):(qso p i).length=p.length:=by unfold qso;simp
theorem qB4:∀(o p:List Int),(o.foldl qso p).length=p.length
 | [],p=>rfl
 | i::o,p=>by rw[List.foldl_cons,qB4 o,qzr]
theorem qG6(n:Nat)(R:Nat)(L:Nat)(ord:List Int)(hr:InR L ord)(hR:R≤ord.length)(hR2:R<1000):∀(m k n':Nat) (p:List Int),k+m=R→m<n'→p.length=L→(∀x,x∈p→0≤x∧x+m≤2000000000000) →
  qb n' (qoL n) ((R:Int),((k:Int),(p,(ord,(((0:Nat),R),())))))=some (((ord.take R).drop k).foldl qso p,()):=by
 intro m
 induction m with
 | zero =>
  intro k n' p hk hn' hp hb
  obtain ⟨n',rfl⟩:∃j,n'=j+1:=⟨n'-1,by omega⟩
  rw[qe,qqb]
  simp only[show iLt (k:Int) (R:Int)=false from decide_eq_false (by omega),cond_false]
  rw[List.drop_eq_nil_of_le (by rw[List.length_take];omega)]
  rfl
 | succ m ih =>
  intro k n' p hk hn' hp hb
  obtain ⟨n',rfl⟩:∃j,n'=j+1:=⟨n'-1,by omega⟩
  have hko:k<ord.length:=by omega
  obtain ⟨i,hi⟩:=Int.eq_ofNat_of_zero_le (hr _ (List.getElem_mem hko)).1
  have hi2:i<p.length:=by have:=(hr _ (List.getElem_mem hko)).2;omega
  have hkt:k<(List.take R (List.drop 0 ord)).length:=by rw[List.drop_zero,List.length_take];omega
  have hkt':k<(List.take R ord).length:=by rw[List.length_take];omega
  rw[qe,qqb]
  simp only[show iLt (k:Int) (R:Int)=true from decide_eq_true (by omega),cond_true,qA _ hkt,Option.bind_some,Int.toNat_natCast,show nAdd (0:Nat) k=k from Nat.zero_add k,List.getElem?_eq_getElem hko]
  rw[hi]
  simp only[qA _ hi2,Option.bind_some,Int.toNat_natCast,List.getElem?_eq_getElem hi2,qj (show k<9223372036854775807 by omega)]
  have hpi:=hb _ (List.getElem_mem hi2)
  have he:p.set i (iW (iAdd p[i] 1))=qso p (ord[k]):=by
   unfold qso
   rw[hi,Int.toNat_natCast,List.getElem?_eq_getElem hi2,Option.getD_some,qbg (by unfold iAdd;omega) (by unfold iAdd;omega)]
   try rfl
  rw[he,ih (k+1) n' (qso p ord[k]) (by omega) (by omega) (by rw[qzr];exact hp) (fun x hx=>by
   rw[← he] at hx
   rcases List.mem_or_eq_of_mem_set hx with h | h
   ·have:=hb x h;omega
   ·rw[h,qbg (by unfold iAdd;omega) (by unfold iAdd;omega)]
    unfold iAdd
    omega),List.drop_eq_getElem_cons hkt',List.foldl_cons,List.getElem_take]
theorem qG7{a:Int}{l:List Int}(ha:0≤a∧a≤1000000000000)(hl:∀x,x∈l→0≤x∧x≤100)(hs:l.sum=100):a-(l.map (qS a)).sum=(qsp a l:Int)∧qsp a l≤l.length:=by
 have hb:=qyD ha l hl
 rw[hs] at hb
 unfold qsp
 omega
theorem qFQ(n:Nat)(a:Int)(l:List Int)(ha:0≤a∧a≤1000000000000)(hl:∀x,x∈l→0≤x∧x≤100)(hs:l.sum=100)(hL:l.length<20)(hn:2000≤n):qqv n (a,(l,()))=some (qts a l,()):=by
 obtain ⟨hR1,hR2⟩:=qG7 ha hl hs
 have o3:=qG5 n a l ha hl hL l [] n rfl (by omega)
 have hin:InR l.length (idxL l.length):=fun x hx=>qAZ.1 hx
 have s3:=qFO n l (idxL l.length) a ha hl hin (by rw[qw2];exact hL) hn
 have p3:=qG6 n (qsp a l) l.length (ordS a l) (fun x hx=>qFP.1 hx) (by rw[qA0];exact hR2) (by omega) (qsp a l) 0 n (l.map (qS a)) (by omega) (by omega) (List.length_map _) (fun x hx=>by
  obtain ⟨y,hy,rfl⟩:=List.mem_map.1 hx
  have:=qCQ ha (hl y hy)
  omega)
 rw[qwQ]
 have hmk:qI (iMk (l.length:Int))=some ():=qbe (by unfold iMk;simp only[Bool.and_eq_true,decide_eq_true_eq];omega)
 simp only[hmk,qbe (qcg (rfl:(l.length:Int)=l.length)),Option.bind_some,Int.toNat_natCast]
 have o3':qb n (ql0 n) (a,(l,((l.length:Int),((0:Int),(a,(l,(List.replicate l.length 0,(List.replicate l.length 0,()))))))))=some (a-(l.map (qS a)).sum,(a,(l,(l.map (qS a),(idxL l.length,()))))):=by
  rw[← o3];simp[idxL]
 rw[o3']
 simp only[Option.bind_some,s3,hR1]
 rw[show cutO (qqY a l [] (idxL l.length)).reverse.length (qsp a l:Int)=some (qsp a l) by
  have:(qqY a l [] (idxL l.length)).reverse.length=l.length:=qA0 a l
  rw[this]
  unfold cutO;rw[if_pos (by omega),Int.toNat_natCast]]
 simp only[Option.bind_some]
 rw[show ((0:Int))=((0:Nat):Int) from rfl,show (qqY a l [] (idxL l.length)).reverse=ordS a l from rfl,p3]
 rfl
end Go.Proofs.YtlmicgmhallkkaaGreatDoor
