/- Texts Dk0, Dk1, Dk2, Dk3, Dk4, Dk5 in one. -/
import Derived.Test.YtcjcacbhkoainaaGreatDoorPe
import Derived.Test.YtcjcacbhkoainaaGreatDoorPd
import Derived.Test.YtcjcacbhkoainaaGreatDoorDw3
/- Clubs, plain: an amount is split, part by part. -/
set_option linter.constructorNameAsVariable false
set_option linter.unusedSimpArgs false
set_option linter.unusedVariables false
set_option linter.unusedSectionVars false
namespace Go.Proofs.YtcjcacbhkoainaaGreatDoor
open Go Go.Proofs Go.RowKit
set_option maxHeartbeats 1000000
def rS(a:Int)(l:List Int)(i:Int):Int:=a*(l[i.toNat]?).getD 0 % 100
def Bef(a:Int)(l:List Int)(x y:Int):Prop:=rS a l y<rS a l x∨(rS a l x=rS a l y∧x<y)
def insV(a:Int)(l:List Int)(v:Int):List Int→List Int
 | []=>[v]
 | x::Q=>if rS a l x<rS a l v then x::insV a l v Q else v::x::Q
theorem qI0{a:Int}{l:List Int}{v x:Int}{Q:List Int}(h:rS a l x<rS a l v):insV a l v (x::Q)=x::insV a l v Q:=if_pos h
theorem qI1{a:Int}{l:List Int}{v x:Int}{Q:List Int}(h:¬rS a l x<rS a l v):insV a l v (x::Q)=v::x::Q:=if_neg h
theorem qH7{a:Int}{l:List Int}{i:Int}{v:Int}(h:lat l i=some v):rS a l i=a*v % 100:=by
 obtain ⟨h0,h1⟩:=qx6 h
 unfold rS
 rw[h1];rfl
theorem qAo{a v:Int}(ha:0≤a∧a≤1000000000000)(hv:0≤v∧v≤100):Int.tmod (iW (iMul a v)) 100=a*v % 100:=by
 have h:=qiY ha.1 ha.2 hv.1 hv.2
 rw[show iW (iMul a v)=a*v from qM (by unfold iMul;omega) (by unfold iMul;omega),Int.tmod_eq_emod_of_nonneg h.1]
theorem qI2(n:Nat)(l:List Int)(a x y v w:Int)(ha:0≤a∧a≤1000000000000)(hl:∀x,x∈l→0≤x∧x≤100)(hx:lat l x=some v)(hy:lat l y=some w):qlM n (x,(y,(a,(l,()))))=some (cmpI (rS a l y) (rS a l x),(a,(l,()))):=by
 have h1:=hl v (List.mem_of_getElem? (qx6 hx).2)
 have h2:=hl w (List.mem_of_getElem? (qx6 hy).2)
 rw[qpH]
 simp only[hx,hy,Option.bind_some,qrD,show qbb (iNe (100:Int) (0:Int))=some () from rfl,qAo ha h1,qAo ha h2,qH7 hx,qH7 hy]
theorem qDh(u v:Int):iLt (cmpI u v) 0=decide (u<v):=by
 rcases quO u v with ⟨e,h⟩ | ⟨e,h⟩ | ⟨e,h⟩<;>rw[e]<;>unfold iLt<;>simp<;>omega
theorem qJZ(n:Nat)(l:List Int)(a:Int)(ha:0≤a∧a≤1000000000000)(hl:∀x,x∈l→0≤x∧x≤100)(b i v:Int):∀(Q B:List Int) (m:Nat),InR l.length (v::Q)→Q.length<1000→Q.length<m →
  qb m (qbv n) ((0:Int),(b,(i,((Q.length:Int),(Q.reverse++v::B,(a,(l,())))))))=some ((0:Int),(b,(i,((insV a l v Q).reverse++B,(a,(l,())))))):=by
 intro Q
 induction Q with
 | nil =>
  intro B m hd hl0 hm
  obtain ⟨m,rfl⟩:∃j,m=j+1:=⟨m-1,by simp at hm;omega⟩
  rw[qc,qcj]
  rfl
 | cons x Q ih =>
  intro B m hd hl0 hm
  obtain ⟨m,rfl⟩:∃j,m=j+1:=⟨m-1,by simp at hm;omega⟩
  simp only[List.length_cons] at hl0 hm
  rw[qc,qcj]
  have hd0:(x::Q).reverse++v::B=Q.reverse++x::v::B:=by simp
  have hd1:(x::Q).reverse++v::B=(Q.reverse++[x])++v::B:=by simp
  have hQ:Q.reverse.length=Q.length:=List.length_reverse
  have hQ1:(Q.reverse++[x]).length=Q.length+1:=by simp
  have lt:∀y,y∈v::x::Q→∃w,lat l y=some w:=fun y hy=>by
   have:=hd y hy
   obtain ⟨k,hk⟩:=Int.eq_ofNat_of_zero_le this.1
   rw[hk] at this ⊢
   exact ⟨_,qw l (show k<l.length by omega)⟩
  obtain ⟨wv,hwv⟩:=lt v (by simp)
  obtain ⟨wx,hwx⟩:=lt x (by simp)
  have e1:lat ((x::Q).reverse++v::B) ((Q.length+1:Nat):Int)=some v:=by rw[hd1];exact latA _ _ _ hQ1
  have e2:lat ((x::Q).reverse++v::B) (Q.length:Int)=some x:=by rw[hd0];exact latA _ _ _ hQ
  have e3:((x::Q).reverse++v::B)[Q.length+1]?=some v:=by rw[hd1];exact getA _ _ _ hQ1
  have e4:((x::Q).reverse++v::B)[Q.length]?=some x:=by rw[hd0];exact getA _ _ _ hQ
  have e5:((x::Q).reverse++v::B).set (Q.length+1) x=(Q.reverse++[x])++x::B:=by rw[hd1];exact qph _ _ _ _ hQ1
  have e6:(Q.reverse++[x])++x::B=Q.reverse++x::x::B:=by simp
  have hpos:iGt ((Q.length+1:Nat):Int) 0=true:=decide_eq_true (by omega)
  simp only[List.length_cons,hpos,cond_true,qk8 (show Q.length<9223372036854775807 by omega),e1,e2,e3,e4,Option.bind_some,Int.toNat_natCast,qI2 n l a v x wv wx ha hl hwv hwx,qDh]
  by_cases hlt:rS a l x<rS a l v
  ·rw[show decide (rS a l x<rS a l v)=true from decide_eq_true hlt]
   simp only[cond_true,e5]
   rw[e6]
   simp only[latA _ _ _ hQ,getA _ _ _ hQ,qph _ _ _ _ hQ,Option.bind_some]
   have:=ih (x::B) m (fun y hy=>hd y (by rcases List.mem_cons.1 hy with h | h;simp[h];simp[h])) (by omega) (by omega)
   rw[this,qI0 hlt]
   simp
  ·rw[show decide (rS a l x<rS a l v)=false from decide_eq_false hlt]
   simp only[cond_false]
   rw[qI1 hlt]
   simp
def qql(a:Int)(l:List Int)(Q B:List Int):List Int:=B.foldl (fun Q v=>insV a l v Q) Q
theorem qqK(a:Int)(l:List Int)(v:Int):∀Q:List Int,(insV a l v Q).Perm (v::Q)
 | []=>List.Perm.refl _
 | x::Q=>by
  unfold insV
  split
  ·exact ((qqK a l v Q).cons x).trans (List.Perm.swap _ _ _)
  ·exact List.Perm.refl _
theorem qJ0(n:Nat)(l:List Int)(a:Int)(ha:0≤a∧a≤1000000000000)(hl:∀x,x∈l→0≤x∧x≤100)(L:Nat)(hL:L<1000)(hn:2000≤n):∀(B Q:List Int) (m:Nat),InR l.length (Q++B)→Q.length+B.length=L→B.length<m →
  qb m (qI n) ((0:Int),((L:Int),((Q.length:Int),(Q.reverse++B,(a,(l,()))))))=some ((qql a l Q B).reverse,(a,(l,()))):=by
 intro B
 induction B with
 | nil =>
  intro Q m hd hk hm
  obtain ⟨m,rfl⟩:∃j,m=j+1:=⟨m-1,by simp at hm;omega⟩
  rw[qc,qV]
  simp only[show iLt (Q.length:Int) (L:Int)=false from decide_eq_false (by simp at hk;omega),cond_false,List.append_nil]
  rfl
 | cons v B ih =>
  intro Q m hd hk hm
  obtain ⟨m,rfl⟩:∃j,m=j+1:=⟨m-1,by simp at hm;omega⟩
  simp only[List.length_cons] at hk hm
  rw[qc,qV]
  have h1:=qJZ n l a ha hl (L:Int) (Q.length:Int) v Q B n (fun y hy=>hd y (by rcases List.mem_cons.1 hy with h | h;simp[h];simp[h])) (by omega) (by omega)
  simp only[show iLt (Q.length:Int) (L:Int)=true from decide_eq_true (by omega),cond_true,h1,Option.bind_some,qi (show Q.length<9223372036854775807 by omega)]
  have hp:=qqK a l v Q
  have hlen:(insV a l v Q).length=Q.length+1:=by rw[hp.length_eq];simp
  have:=ih (insV a l v Q) m (fun y hy=>hd y (by
   rcases List.mem_append.1 hy with h | h
   ·rcases List.mem_cons.1 (hp.mem_iff.1 h) with h | h
    ·simp[h]
    ·simp[h]
   ·simp[h])) (by omega) (by omega)
  rw[hlen] at this
  exact this
theorem qHE(n:Nat)(l d:List Int)(a:Int)(ha:0≤a∧a≤1000000000000)(hl:∀x,x∈l→0≤x∧x≤100)(hd:InR l.length d)(hdl:d.length<20)(hn:2000≤n):qco n (d,(a,(l,())))=some ((qql a l [] d).reverse,(a,(l,()))):=by
 have h3:qb n (qI n) ((0:Int),((d.length:Int),(((1:Nat):Int),(d,(a,(l,()))))))=some ((qql a l [] d).reverse,(a,(l,()))):=by
  cases d with
  | nil =>
   obtain ⟨m,rfl⟩:∃m,n=m+1:=⟨n-1,by omega⟩
   rw[qc,qV]
   rfl
  | cons x d=>exact qJ0 n l a ha hl (d.length+1) (by simp at hdl;omega) hn d [x] n hd (by simp;omega) (by simp at hdl;omega)
 obtain ⟨n,rfl⟩:∃m,n=m+1:=⟨n-1,by omega⟩
 rw[qfQ,qf2]
 simp only[qc]
 rw[qfw]
 simp only[show iLe (20:Int) (d.length:Int)=false from decide_eq_false (by omega),cond_false,Option.bind_some,qeA]
 rw[show iW (iAdd (0:Int) 1)=((1:Nat):Int) from rfl,h3]
 simp only[Option.bind_some]
 rw[qfx]
 simp only[show iLt (20:Int) (d.length:Int)=false from decide_eq_false (by omega),cond_false,Option.bind_some]
theorem qyS(a:Int)(l:List Int):∀(B Q:List Int),(qql a l Q B).Perm (Q++B)
 | [],Q=>by unfold qql;simp
 | v::B,Q=>by
  have:=qyS a l B (insV a l v Q)
  refine this.trans (((qqK a l v Q).append_right B).trans ?_)
  exact (List.perm_middle (a:=v) (l₁:=Q) (l₂:=B)).symm
theorem qxh{a:Int}{l:List Int}{v:Int}:∀{Q:List Int},Q.Pairwise (fun x y=>Bef a l y x)→(∀x,x∈Q→x<v)→(insV a l v Q).Pairwise (fun x y=>Bef a l y x)
 | [],_,_=>by unfold insV;simp
 | x::Q,h,hv=>by
  rw[List.pairwise_cons] at h
  unfold insV
  split
  ·rename_i hlt
   rw[List.pairwise_cons]
   refine ⟨fun y hy=>?_,qxh h.2 fun y hy=>hv y (by simp[hy])⟩
   rcases List.mem_cons.1 ((qqK a l v Q).mem_iff.1 hy) with rfl | hy
   ·exact .inl hlt
   ·exact h.1 y hy
  ·rename_i hlt
   rw[List.pairwise_cons]
   refine ⟨fun y hy=>?_,List.pairwise_cons.2 h⟩
   have hy1:=hv y hy
   have hxy:rS a l x≤rS a l y:=by
    rcases List.mem_cons.1 hy with rfl | hy
    ·exact Int.le_refl _
    ·rcases h.1 y hy with h2 | h2
     ·omega
     ·omega
   unfold Bef
   omega
theorem qwg{a:Int}{l:List Int}:∀{B Q:List Int},Q.Pairwise (fun x y=>Bef a l y x)→(∀x,x∈Q→∀y,y∈B→x<y)→B.Pairwise (· < ·)→(qql a l Q B).Pairwise (fun x y=>Bef a l y x)
 | [],Q,h,_,_=>h
 | v::B,Q,h,hv,hB=>by
  rw[List.pairwise_cons] at hB
  refine qwg (B:=B) (qxh h fun x hx=>hv x hx v (by simp)) (fun x hx y hy=>?_) hB.2
  rcases List.mem_cons.1 ((qqK a l v Q).mem_iff.1 hx) with rfl | hx
  ·exact hB.1 y hy
  ·exact hv x hx y (by simp[hy])
def idxL(k:Nat):List Int:=(List.range k).map fun i:Nat=>(i:Int)
theorem qFN(k:Nat):idxL (k+1)=idxL k++[(k:Int)]:=by unfold idxL;rw[List.range_succ,List.map_append];rfl
theorem qxU(k:Nat):(idxL k).length=k:=by unfold idxL;simp
theorem qB2{k:Nat}{x:Int}:x∈idxL k↔0≤x∧x<k:=by
 unfold idxL
 rw[List.mem_map]
 constructor
 ·rintro ⟨i,hi,rfl⟩
  have:=List.mem_range.1 hi
  omega
 ·intro h
  exact ⟨x.toNat,List.mem_range.2 (by omega),by omega⟩
theorem qB3(k:Nat):(idxL k).Pairwise (· < ·):=by
 unfold idxL
 rw[List.pairwise_map]
 exact List.pairwise_lt_range.imp fun {a b} h=>by omega
def ordS(a:Int)(l:List Int):List Int:=(qql a l [] (idxL l.length)).reverse
theorem qs0(a:Int)(l:List Int):(ordS a l).Perm (idxL l.length):=by
 unfold ordS
 exact (List.reverse_perm _).trans (by simpa using qyS a l (idxL l.length) [])
theorem qCy(a:Int)(l:List Int):(ordS a l).Pairwise (Bef a l):=by
 unfold ordS
 rw[List.pairwise_reverse]
 exact qwg List.Pairwise.nil (fun x hx=>by cases hx) (qB3 _)
theorem qxV(a:Int)(l:List Int):(ordS a l).length=l.length:=by rw[(qs0 a l).length_eq,qxU]
theorem qB4{a:Int}{l:List Int}{x:Int}:x∈ordS a l↔0≤x∧x<l.length:=by rw[(qs0 a l).mem_iff,qB2]
theorem qEd(a:Int)(l:List Int):(ordS a l).Nodup:=(qs0 a l).nodup_iff.2 ((qB3 _).imp fun {a b} h=>by omega)
def qmE(p:List Int)(i:Int):List Int:=p.set i.toNat ((p[i.toNat]?).getD 0+1)
def qlT(a:Int)(l:List Int):Nat:=(a-(l.map (qS a)).sum).toNat
def qgZ(a:Int)(l:List Int):List Int:=((ordS a l).take (qlT a l)).foldl qmE (l.map (qS a))
theorem qI3(n:Nat)(a:Int)(l:List Int)(ha:0≤a∧a≤1000000000000)(hl:∀x,x∈l→0≤x∧x≤100)(hL:l.length<20):∀(B A:List Int) (n':Nat),l=A++B→B.length<n' →
  qb n' (qie n) (a-(A.map (qS a)).sum,(l,((l.length:Int),((A.length:Int),(a,(l,(A.map (qS a)++List.replicate B.length 0,(idxL A.length++List.replicate B.length 0,()))))))))=some (a-(l.map (qS a)).sum,(a,(l,(l.map (qS a),(idxL l.length,()))))):=by
 intro B
 induction B with
 | nil =>
  intro A n' e hn'
  obtain ⟨n',rfl⟩:∃j,n'=j+1:=⟨n'-1,by simp at hn';omega⟩
  rw[List.append_nil] at e
  subst e
  rw[qc,qkg]
  simp only[qB,cond_false,List.length_nil,List.replicate_zero,List.append_nil]
 | cons x B ih =>
  intro A n' e hn'
  obtain ⟨n',rfl⟩:∃j,n'=j+1:=⟨n'-1,by simp at hn';omega⟩
  have hlen:l.length=A.length+(B.length+1):=by rw[e,List.length_append,List.length_cons]
  have hlt:A.length<l.length:=by omega
  have hx:=hl x (by rw[e];simp)
  have hq:=qyQ ha hx
  have hA:=qt7 ha A fun y hy=>hl y (by rw[e];simp[hy])
  have hAq:(A.map (qS a)).length=A.length:=List.length_map _
  have ho:(idxL A.length).length=A.length:=qxU _
  rw[qc,qkg]
  rw[List.length_cons,List.replicate_succ]
  have hlat:lat l (A.length:Int)=some x:=by rw[e];exact latA A B x rfl
  simp only[qv hlt,cond_true,hlat,Option.bind_some,show qbb (iNe (100:Int) (0:Int))=some () from rfl,latA _ _ _ hAq,getA _ _ _ hAq,qph _ _ _ _ hAq,latA _ _ _ ho,getA _ _ _ ho,qph _ _ _ _ ho,Int.toNat_natCast,hq.2.2.2.2,qi (show A.length<9223372036854775807 by omega)]
  rw[show iW (iSub (a-(A.map (qS a)).sum) (qS a x))=a-((A++[x]).map (qS a)).sum by
   rw[qM (by unfold iSub;omega) (by unfold iSub;omega),List.map_append,List.sum_append]
   simp[iSub]
   omega]
  have:=ih (A++[x]) n' (by rw[e];simp) (by simp at hn';omega)
  rw[List.length_append,List.map_append,show A.length+[x].length=A.length+1 from rfl,qFN] at this
  rw[List.map_append]
  simpa using this
theorem qs1(p:List Int)(i:Int):(qmE p i).length=p.length:=by unfold qmE;simp
theorem qDi:∀(o p:List Int),(o.foldl qmE p).length=p.length
 | [],p=>rfl
 | i::o,p=>by rw[List.foldl_cons,qDi o,qs1]
theorem qI4(n:Nat)(R:Nat)(L:Nat)(ord:List Int)(hr:InR L ord)(hR:R≤ord.length)(hR2:R<1000):∀(m k n':Nat) (p:List Int),k+m=R→m<n'→p.length=L→(∀x,x∈p→0≤x∧x+m≤2000000000000) →
  qb n' (qmy n) ((R:Int),((k:Int),(p,(ord,(((0:Nat),R),())))))=some (((ord.take R).drop k).foldl qmE p,()):=by
 intro m
 induction m with
 | zero =>
  intro k n' p hk hn' hp hb
  obtain ⟨n',rfl⟩:∃j,n'=j+1:=⟨n'-1,by omega⟩
  rw[qc,qkh]
  simp only[show iLt (k:Int) (R:Int)=false from decide_eq_false (by omega),cond_false]
  rw[List.drop_eq_nil_of_le (by rw[List.length_take];omega)]
  rfl
 | succ m ih =>
  intro k n' p hk hn' hp hb
  obtain ⟨n',rfl⟩:∃j,n'=j+1:=⟨n'-1,by omega⟩
  have hko:k<ord.length:=by omega
  obtain ⟨i,hi⟩:=Int.eq_ofNat_of_zero_le (hr _ (List.getElem_mem hko)).1
  have hi2:i<p.length:=by have:=(hr _ (List.getElem_mem hko)).2;omega
  have hkt:k<(List.take R (List.drop 0 ord)).length:=by rw[List.drop_zero,List.length_take];omega
  have hkt':k<(List.take R ord).length:=by rw[List.length_take];omega
  rw[qc,qkh]
  simp only[show iLt (k:Int) (R:Int)=true from decide_eq_true (by omega),cond_true,qw _ hkt,Option.bind_some,Int.toNat_natCast,show nAdd (0:Nat) k=k from Nat.zero_add k,List.getElem?_eq_getElem hko]
  rw[hi]
  simp only[qw _ hi2,Option.bind_some,Int.toNat_natCast,List.getElem?_eq_getElem hi2,qi (show k<9223372036854775807 by omega)]
  have hpi:=hb _ (List.getElem_mem hi2)
  have he:p.set i (iW (iAdd p[i] 1))=qmE p (ord[k]):=by
   unfold qmE
   rw[hi,Int.toNat_natCast,List.getElem?_eq_getElem hi2,Option.getD_some,qM (by unfold iAdd;omega) (by unfold iAdd;omega)]
   try rfl
  rw[he,ih (k+1) n' (qmE p ord[k]) (by omega) (by omega) (by rw[qs1];exact hp) (fun x hx=>by
   rw[← he] at hx
   rcases List.mem_or_eq_of_mem_set hx with h | h
   ·have:=hb x h;omega
   ·rw[h,qM (by unfold iAdd;omega) (by unfold iAdd;omega)]
    unfold iAdd
    omega),List.drop_eq_getElem_cons hkt',List.foldl_cons,List.getElem_take]
theorem qzA{a:Int}{l:List Int}(ha:0≤a∧a≤1000000000000)(hl:∀x,x∈l→0≤x∧x≤100)(hs:l.sum=100):a-(l.map (qS a)).sum=(qlT a l:Int)∧qlT a l≤l.length:=by
 have hb:=qt7 ha l hl
 rw[hs] at hb
 unfold qlT
 omega
theorem qHF(n:Nat)(a:Int)(l:List Int)(ha:0≤a∧a≤1000000000000)(hl:∀x,x∈l→0≤x∧x≤100)(hs:l.sum=100)(hL:l.length<20)(hn:2000≤n):qn1 n (a,(l,()))=some (qgZ a l,()):=by
 obtain ⟨hR1,hR2⟩:=qzA ha hl hs
 have o3:=qI3 n a l ha hl hL l [] n rfl (by omega)
 have hin:InR l.length (idxL l.length):=fun x hx=>qB2.1 hx
 have s3:=qHE n l (idxL l.length) a ha hl hin (by rw[qxU];exact hL) hn
 have p3:=qI4 n (qlT a l) l.length (ordS a l) (fun x hx=>qB4.1 hx) (by rw[qxV];exact hR2) (by omega) (qlT a l) 0 n (l.map (qS a)) (by omega) (by omega) (List.length_map _) (fun x hx=>by
  obtain ⟨y,hy,rfl⟩:=List.mem_map.1 hx
  have:=qyQ ha (hl y hy)
  omega)
 rw[qr8]
 have hmk:qbb (iMk (l.length:Int))=some ():=qcC (by unfold iMk;simp only[Bool.and_eq_true,decide_eq_true_eq];omega)
 simp only[hmk,qcC (qb4 (rfl:(l.length:Int)=l.length)),Option.bind_some,Int.toNat_natCast]
 have o3':qb n (qie n) (a,(l,((l.length:Int),((0:Int),(a,(l,(List.replicate l.length 0,(List.replicate l.length 0,()))))))))=some (a-(l.map (qS a)).sum,(a,(l,(l.map (qS a),(idxL l.length,()))))):=by
  rw[← o3];simp[idxL]
 rw[o3']
 simp only[Option.bind_some,s3,hR1]
 rw[show cutO (qql a l [] (idxL l.length)).reverse.length (qlT a l:Int)=some (qlT a l) by
  have:(qql a l [] (idxL l.length)).reverse.length=l.length:=qxV a l
  rw[this]
  unfold cutO;rw[if_pos (by omega),Int.toNat_natCast]]
 simp only[Option.bind_some]
 rw[show ((0:Int))=((0:Nat):Int) from rfl,show (qql a l [] (idxL l.length)).reverse=ordS a l from rfl,p3]
 rfl
theorem qHG{l m:List Int}(h:l.Perm m):l.sum=m.sum:=by
 induction h with
 | nil=>rfl
 | cons x _ ih=>simp[ih]
 | swap x y l=>simp;omega
 | trans _ _ h1 h2=>exact h1.trans h2
theorem qFO:∀(o p:List Int) (j:Nat),o.Nodup→(∀x,x∈o→0≤x)→j<p.length→((o.foldl qmE p)[j]?).getD 0=(p[j]?).getD 0+(if (j:Int)∈o then 1 else 0)
 | [],p,j,_,_,_=>by simp
 | i::o,p,j,hn,h0,hj=>by
  rw[List.nodup_cons] at hn
  rw[List.foldl_cons,qFO o (qmE p i) j hn.2 (fun x hx=>h0 x (List.mem_cons_of_mem _ hx)) (by rw[qs1];exact hj)]
  obtain ⟨k,rfl⟩:=Int.eq_ofNat_of_zero_le (h0 i List.mem_cons_self)
  unfold qmE
  rw[Int.toNat_natCast,List.getElem?_set]
  by_cases hk:k=j
  ·subst hk
   rw[if_pos rfl,if_pos hj,if_neg hn.1]
   simp
  ·rw[if_neg hk]
   have:((j:Int)∈(k:Int)::o)↔(j:Int)∈o:=by
    rw[List.mem_cons]
    constructor
    ·rintro (h | h)
     ·omega
     ·exact h
    ·exact .inr
   by_cases hm:(j:Int)∈o
   ·rw[if_pos hm,if_pos (this.2 hm)]
   ·rw[if_neg hm,if_neg fun h=>hm (this.1 h)]
theorem qDj:∀(o p:List Int),(∀x,x∈o→0≤x∧x<p.length)→(o.foldl qmE p).sum=p.sum+o.length
 | [],p,_=>by simp
 | i::o,p,h0=>by
  obtain ⟨k,rfl⟩:=Int.eq_ofNat_of_zero_le (h0 i List.mem_cons_self).1
  have hk:=(h0 _ List.mem_cons_self).2
  have hk':k<p.length:=by omega
  rw[List.foldl_cons,qDj o (qmE p (k:Int)) (fun x hx=>by rw[qs1];exact h0 x (List.mem_cons_of_mem _ hx))]
  unfold qmE
  rw[Int.toNat_natCast,qqc _ _ _ hk',List.getElem?_eq_getElem hk',Option.getD_some,List.length_cons]
  omega
theorem qB5{α:Type}{f:α→Int}{c:Int}:∀{L:List α},(∀y,y∈L→f y≤c)→(L.map f).sum≤c*L.length
 | [],_=>by simp
 | y::L,h=>by
  have:=qB5 (L:=L) fun z hz=>h z (List.mem_cons_of_mem _ hz)
  have h1:=h y List.mem_cons_self
  rw[List.map_cons,List.sum_cons,List.length_cons,Int.natCast_add,Int.mul_add]
  simp
  omega
theorem qH8(a:Int)(l:List Int)(x:Int):0≤rS a l x∧rS a l x≤99:=by unfold rS;omega
theorem qDk(a:Int):∀l:List Int,(l.map fun x=>a*x % 100).sum=a*l.sum-100*(l.map (qS a)).sum
 | []=>by simp
 | x::l=>by
  rw[List.map_cons,List.sum_cons,qDk a l,List.map_cons,List.sum_cons,List.sum_cons,Int.mul_add]
  have:qS a x=a*x/100:=rfl
  omega
theorem qJ1(a:Int)(l:List Int):(idxL l.length).map (rS a l)=l.map fun x=>a*x % 100:=by
 unfold idxL
 rw[List.map_map]
 refine List.ext_getElem (by simp) fun i h1 h2=>?_
 have h3:i<l.length:=by simpa using h2
 simp only[List.getElem_map,List.getElem_range,Function.comp]
 unfold rS
 rw[Int.toNat_natCast,List.getElem?_eq_getElem h3]
 rfl
theorem qFP{a:Int}{l:List Int}(ha:0≤a∧a≤1000000000000)(hl:∀x,x∈l→0≤x∧x≤100)(hs:l.sum=100):((ordS a l).map (rS a l)).sum=100*(qlT a l:Int):=by
 rw[qHG ((qs0 a l).map (rS a l)),qJ1,qDk,hs,← (qzA ha hl hs).1]
 omega
theorem qI5{a:Int}{l:List Int}(ha:0≤a∧a≤1000000000000)(hl:∀x,x∈l→0≤x∧x≤100)(hs:l.sum=100){x:Int}(hx:x∈(ordS a l).take (qlT a l)):0<rS a l x:=by
 have ht:=qFP ha hl hs
 obtain ⟨k,hk,rfl⟩:=List.mem_iff_getElem.1 hx
 rw[List.length_take] at hk
 have hk1:k<qlT a l:=by omega
 have hk2:k<(ordS a l).length:=by omega
 rw[List.getElem_take]
 have h0:=qH8 a l (ordS a l)[k]
 refine Decidable.byContradiction fun hh=>?_
 have he:rS a l (ordS a l)[k]=0:=by omega
 have e:((ordS a l).map (rS a l)).sum=(((ordS a l).take k).map (rS a l)).sum+(((ordS a l).drop k).map (rS a l)).sum:=by
  rw[← List.sum_append,← List.map_append,List.take_append_drop]
 have h1:(((ordS a l).take k).map (rS a l)).sum≤99*((ordS a l).take k).length:=qB5 fun y _=>(qH8 a l y).2
 have h2:(((ordS a l).drop k).map (rS a l)).sum≤0*((ordS a l).drop k).length:=qB5 fun y hy=>by
  have hsd:=(qCy a l).sublist (List.drop_sublist k _)
  rw[List.drop_eq_getElem_cons hk2] at hy hsd
  rw[List.pairwise_cons] at hsd
  rcases List.mem_cons.1 hy with rfl | hy
  ·omega
  ·rcases hsd.1 y hy with h | h<;>omega
 rw[List.length_take] at h1
 have:((min k (ordS a l).length:Nat):Int)=k:=by omega
 rw[this] at h1
 omega
theorem qzB(a:Int)(l:List Int)(k:Nat):((ordS a l).take k).Nodup∧∀x,x∈(ordS a l).take k→0≤x∧x<l.length :=
 ⟨(qEd a l).sublist (List.take_sublist _ _),fun x hx=>qB4.1 (List.mem_of_mem_take hx)⟩
theorem qyT(a:Int)(l:List Int):(qgZ a l).length=l.length:=by unfold qgZ;rw[qDi,List.length_map]
theorem qEe{a:Int}{l:List Int}(ha:0≤a∧a≤1000000000000)(hl:∀x,x∈l→0≤x∧x≤100)(hs:l.sum=100):(qgZ a l).sum=a:=by
 obtain ⟨h1,h2⟩:=qzA ha hl hs
 unfold qgZ
 rw[qDj _ _ fun x hx=>by rw[List.length_map];exact (qzB a l _).2 x hx,List.length_take,qxV]
 have:((min (qlT a l) l.length:Nat):Int)=qlT a l:=by omega
 rw[this]
 omega
theorem qFQ{a:Int}{l:List Int}{j:Nat}(hj:j<l.length)(hj':j<(qgZ a l).length):(qgZ a l)[j]=qS a l[j]+(if (j:Int)∈(ordS a l).take (qlT a l) then 1 else 0):=by
 have h:=qFO ((ordS a l).take (qlT a l)) (l.map (qS a)) j (qzB a l _).1 (fun x hx=>((qzB a l _).2 x hx).1) (by rw[List.length_map];exact hj)
 have e1:((qgZ a l)[j]?).getD 0=(qgZ a l)[j]:=by rw[List.getElem?_eq_getElem hj'];rfl
 have e2:((l.map (qS a))[j]?).getD 0=qS a l[j]:=by rw[List.getElem?_map,List.getElem?_eq_getElem hj];rfl
 rw[e2] at h
 rw[← e1]
 exact h
theorem qI6{a:Int}{l:List Int}(ha:0≤a∧a≤1000000000000)(hl:∀x,x∈l→0≤x∧x≤100)(hs:l.sum=100){j:Nat}(hj:j<l.length)(hj':j<(qgZ a l).length):0≤(qgZ a l)[j]∧(qgZ a l)[j]≤1000000000001∧-100<100*(qgZ a l)[j]-a*l[j]∧100*(qgZ a l)[j]-a*l[j]<100:=by
 have hq:=qyQ ha (hl _ (List.getElem_mem hj))
 rw[qFQ hj hj']
 split
 ·rename_i hm
  have:=qI5 ha hl hs hm
  unfold rS at this
  rw[Int.toNat_natCast,List.getElem?_eq_getElem hj,Option.getD_some] at this
  have hqq:qS a l[j]=a*l[j]/100:=rfl
  omega
 ·omega
def AcI(L:Nat)(V:Nat→Int)(acc:List Int):Prop:=acc.length=L∧∀(j:Nat) (hj:j<acc.length),(-9223372036854775808≤acc[j]∧acc[j]≤9223372036854775807)∧(18446744073709551616:Int)∣acc[j]-V j
theorem AcI.congr{L:Nat}{V V':Nat→Int}{a:List Int}(h:AcI L V a)(e:∀j,V j=V' j):AcI L V' a:=⟨h.1,fun j hj=>by rw[← e];exact h.2 j hj⟩
theorem AcI.put{L:Nat}{V:Nat→Int}{a:List Int}(h:AcI L V a){c:Nat}(hc:c<a.length){y z:Int}(hz:-9223372036854775808≤z∧z≤9223372036854775807)(hd:(18446744073709551616:Int)∣z-a[c]-y):AcI L (fun j=>V j+if j=c then y else 0) (a.set c z):=by
 refine ⟨by rw[List.length_set];exact h.1,fun j hj=>?_⟩
 have hj':j<a.length:=by rwa [List.length_set] at hj
 show _∧(18446744073709551616:Int)∣_-(V j+if j=c then y else 0)
 rw[List.getElem_set]
 by_cases e:c=j
 ·subst e
  rw[if_pos rfl,if_pos rfl]
  have:=h.2 c hc
  exact ⟨hz,by omega⟩
 ·rw[if_neg e,if_neg (fun h=>e h.symm),Int.add_zero]
  exact h.2 j hj'
theorem qI7(A:List Int)(x:Int)(j:Nat):((A++[x])[j]?).getD 0=(A[j]?).getD 0+(if j=A.length then x else 0):=by
 rcases Nat.lt_trichotomy j A.length with h | h | h
 ·rw[List.getElem?_append_left h,if_neg (by omega)];omega
 ·subst h;simp
 ·rw[if_neg (by omega),List.getElem?_eq_none (by simp;omega),List.getElem?_eq_none (by omega)];rfl
theorem qKG(n:Nat)(f:Int)(hf:f=1∨f = -1)(b:Bk)(ps:List Int)(L:Nat)(V:Nat→Int)(hL:ps.length≤L)(hps:ps.length<1000):∀(B A:List Int) (n':Nat) (acc:List Int),ps=A++B→AcI L (fun j=>V j+f*(A[j]?).getD 0) acc→B.length<n' →
  ∃acc',AcI L (fun j=>V j+f*(ps[j]?).getD 0) acc'∧qb n' (qif n) (f,(ps,((ps.length:Int),((A.length:Int),(b,(acc,()))))))=some (b,(acc',())):=by
 intro B
 induction B with
 | nil =>
  intro A n' acc e ha hn'
  obtain ⟨n',rfl⟩:∃j,n'=j+1:=⟨n'-1,by simp at hn';omega⟩
  rw[List.append_nil] at e
  subst e
  refine ⟨acc,ha,?_⟩
  rw[qc,qgW]
  simp only[qB,cond_false]
 | cons x B ih =>
  intro A n' acc e ha hn'
  obtain ⟨n',rfl⟩:∃j,n'=j+1:=⟨n'-1,by simp at hn';omega⟩
  have hlen:ps.length=A.length+(B.length+1):=by rw[e,List.length_append,List.length_cons]
  have hlt:A.length<ps.length:=by omega
  have hla:A.length<acc.length:=by rw[ha.1];omega
  have hlat:lat ps (A.length:Int)=some x:=by rw[e];exact latA A B x rfl
  rw[qc,qgW]
  simp only[qv hlt,cond_true,hlat,Option.bind_some,qw _ hla,Int.toNat_natCast,List.getElem?_eq_getElem hla,qi (show A.length<9223372036854775807 by omega)]
  have d1:=qk9 (iAdd acc[A.length] (iW (iMul f x)))
  have d2:=qk9 (iMul f x)
  have hput:=ha.put hla (y:=f*x) (qAN (iAdd acc[A.length] (iW (iMul f x)))) (by unfold iAdd iMul at *;omega)
  obtain ⟨acc',h1,h3⟩:=ih (A++[x]) n' (acc.set A.length (iW (iAdd acc[A.length] (iW (iMul f x))))) (by rw[e];simp) (hput.congr fun j=>by
   rw[qI7,Int.mul_add]
   by_cases hj:j=A.length
   ·rw[if_pos hj,if_pos hj];omega
   ·rw[if_neg hj,if_neg hj];omega) (by simp at hn';omega)
  rw[List.length_append] at h3
  exact ⟨acc',h1,h3⟩
def qnp(u:Uni)(h:Int):List Int:=(u.2.2.2.2.1[h.toNat]?).getD []
def shV(u:Uni)(a h:Int)(j:Nat):Int:=((qgZ a (qnp u h))[j]?).getD 0
theorem qFR{u:Uni}(K:Okay u)(B:Bnd u){h:Int}(hh:0≤h∧h<u.1.1.length):lat u.2.2.2.2.1 h=some (qnp u h)∧(qnp u h).length=u.2.2.1∧(∀x,x∈qnp u h→0≤x∧x≤100)∧(qnp u h).sum=100:=by
 obtain ⟨j,rfl⟩:=Int.eq_ofNat_of_zero_le hh.1
 have hj:j<u.2.2.2.2.1.length:=by rw[K.sh];omega
 have hr:=K.rows _ (List.getElem_mem hj)
 have hb:=B.ro _ (List.getElem_mem hj)
 have e:qnp u (j:Int)=u.2.2.2.2.1[j]:=by unfold qnp;rw[Int.toNat_natCast,List.getElem?_eq_getElem hj];rfl
 rw[e]
 exact ⟨qw _ hj,by omega,hb.1,hb.2⟩
theorem qDl(n:Nat)(a h f:Int)(hf:f=1∨f = -1)(b:Bk)(K:Okay b.1)(B:Bnd b.1)(acc:List Int)(V:Nat→Int)(ha:0≤a∧a≤1000000000000)(hh:0≤h∧h<b.1.1.1.length)(hl:AcI (b.1.2.2.1+2).toNat V acc)(hn:2000≤n) :
  ∃acc',AcI (b.1.2.2.1+2).toNat (fun j=>V j+f*shV b.1 a h j) acc'∧qho n (a,(h,(f,(b,(acc,())))))=some (b,(acc',())):=by
 obtain ⟨r1,r2,r3,r4⟩:=qFR K B hh
 have hc:=K.cl
 have p3:=qHF n a _ ha r3 r4 (by omega) hn
 have hsl:=qyT a (qnp b.1 h)
 rw[qnV]
 simp only[r1,Option.bind_some,p3]
 obtain ⟨acc',h1,h3⟩:=qKG n f hf b (qgZ a (qnp b.1 h)) (b.1.2.2.1+2).toNat V (by omega) (by omega) (qgZ a (qnp b.1 h)) [] n acc rfl (hl.congr fun j=>by simp) (by omega)
 refine ⟨acc',h1,?_⟩
 rw[show ((0:Int))=(([]:List Int).length:Int) from rfl,h3];rfl
def qwG(u:Uni)(m:Msg)(s:Stay)(j:Nat):Int:=shV u (qT u m s).1 s.1 j+(if (j:Int)=u.2.2.1 then (qT u m s).2 else 0)-(if (j:Int)=u.2.2.1+1 then (qT u m s).1+(qT u m s).2 else 0)
def msgC(u:Uni)(m:Msg)(j:Nat):Int:=(m.2.2.2.2.map fun s=>qwG u m s j).sum
def qs2(u:Uni)(w:Work)(j:Nat):Int:=(if (j:Int)=w.1 then w.2.2*u.2.2.2.2.2.2.2.2.2.2.2 else 0)-shV u (w.2.2*u.2.2.2.2.2.2.2.2.2.2.2) w.2.1 j
def accT(u:Uni)(bs:List Msg)(j:Nat):Int:=(bs.map fun m=>msgC u m j).sum+(u.2.2.2.2.2.2.2.1.map fun w=>qs2 u w j).sum
theorem qxW{α:Type}(f:α→Int)(A:List α)(x:α):((A++[x]).map f).sum=(A.map f).sum+f x:=by simp
theorem qHH{u:Uni}(K:Okay u){m:Msg}{x:Stay}{V:Nat→Int}{acc1:List Int}{c:Nat}(hce:u.2.2.1=(c:Int))(h1:AcI (u.2.2.1+2).toNat (fun j=>V j+1*shV u (qT u m x).1 x.1 j) acc1)(hcl:c<acc1.length)(hc1l:c+1<(acc1.set c (iW (iAdd acc1[c] (qT u m x).2))).length) :
  AcI (u.2.2.1+2).toNat (fun j=>V j+qwG u m x j) ((acc1.set c (iW (iAdd acc1[c] (qT u m x).2))).set (c+1) (iW (iSub (acc1.set c (iW (iAdd acc1[c] (qT u m x).2)))[c+1] (iW (iAdd (qT u m x).1 (qT u m x).2))))):=by
 have d1:=qk9 (iAdd acc1[c] (qT u m x).2)
 have d2:=qk9 (iSub (acc1.set c (iW (iAdd acc1[c] (qT u m x).2)))[c+1] (iW (iAdd (qT u m x).1 (qT u m x).2)))
 have d3:=qk9 (iAdd (qT u m x).1 (qT u m x).2)
 have p1:=h1.put hcl (y:=(qT u m x).2) (qAN (iAdd acc1[c] (qT u m x).2)) (by unfold iAdd at *;omega)
 have p2:=p1.put hc1l (y:=-((qT u m x).1+(qT u m x).2)) (qAN (iSub (acc1.set c (iW (iAdd acc1[c] (qT u m x).2)))[c+1] (iW (iAdd (qT u m x).1 (qT u m x).2)))) (by unfold iAdd iSub at *;omega)
 refine p2.congr fun j=>?_
 unfold qwG
 rw[hce]
 by_cases e1:j=c
 ·rw[if_pos e1,if_neg (by omega),if_pos (by omega),if_neg (by omega)];omega
 ·by_cases e2:j=c+1
  ·rw[if_neg e1,if_pos e2,if_neg (by omega),if_pos (by omega)];omega
  ·rw[if_neg e1,if_neg e2,if_neg (by omega),if_neg (by omega)];omega
theorem qJ2(n:Nat)(b:Bk)(K:Okay b.1)(B:Bnd b.1)(m:Msg)(hm:m∈b.1.2.1)(hm1:m.1=1)(bk0:List Msg)(lb k0:Int)(hn:2000≤n)(V:Nat→Int):∀(Y A:List Stay) (n':Nat) (acc:List Int),m.2.2.2.2=A++Y→AcI (b.1.2.2.1+2).toNat (fun j=>V j+(A.map fun s=>qwG b.1 m s j).sum) acc→Y.length<n' →
  ∃acc',AcI (b.1.2.2.1+2).toNat (fun j=>V j+msgC b.1 m j) acc'∧qb n' (qkf n) (b.1.2.2.1,(b.1.2.2.1+1,(bk0,(lb,(k0,(m.2.2.2.2,((m.2.2.2.2.length:Int),((A.length:Int),(b,(acc,(m,())))))))))))=some (b.1.2.2.1,(b.1.2.2.1+1,(bk0,(lb,(k0,(b,(acc',()))))))):=by
 have hst:=K.v.st m hm
 have hc:=K.cl
 obtain ⟨c,hce⟩:=Int.eq_ofNat_of_zero_le (show 0≤b.1.2.2.1 by omega)
 intro Y
 induction Y with
 | nil =>
  intro A n' acc e ha hn'
  obtain ⟨n',rfl⟩:∃j,n'=j+1:=⟨n'-1,by simp at hn';omega⟩
  rw[List.append_nil] at e
  refine ⟨acc,ha.congr fun j=>by unfold msgC;rw[e],?_⟩
  rw[qc,qig,e]
  simp only[qB,cond_false]
 | cons x Y ih =>
  intro A n' acc e ha hn'
  obtain ⟨n',rfl⟩:∃j,n'=j+1:=⟨n'-1,by simp at hn';omega⟩
  have hlen:m.2.2.2.2.length=A.length+(Y.length+1):=by rw[e,List.length_append,List.length_cons]
  have hlt:A.length<m.2.2.2.2.length:=by omega
  have hx:x∈m.2.2.2.2:=by rw[e];simp
  have hlat:lat m.2.2.2.2 (A.length:Int)=some x:=by rw[e];exact latA A Y x rfl
  have hin:=qrF K.v hm hm1 hx
  have hbd:=qB0 K B hm hm1 hx
  obtain ⟨acc1,h1,h3⟩:=qDl n (qT b.1 m x).1 x.1 1 (.inl rfl) b K B acc _ hbd hin ha hn
  have hal:=h1.1
  have hcl:c<acc1.length:=by omega
  rw[qc,qig]
  simp only[qv hlt,cond_true,hlat,Option.bind_some,qzz n m x b K hin hn,h3]
  have hc1l:c+1<(acc1.set c (iW (iAdd acc1[c] (qT b.1 m x).2))).length:=by rw[List.length_set];omega
  have hnew:=qHH K hce h1 hcl hc1l
  rw[hce,show ((c:Int)+1)=((c+1:Nat):Int) from rfl]
  simp only[qw _ hcl,Option.bind_some,Int.toNat_natCast,List.getElem?_eq_getElem hcl,qw _ hc1l,List.getElem?_eq_getElem hc1l,qi (show A.length<9223372036854775807 by omega)]
  obtain ⟨acc',g1,g2⟩:=ih (A++[x]) n' _ (by rw[e];simp) (hnew.congr fun j=>by rw[qxW];omega) (by simp at hn';omega)
  rw[List.length_append,hce] at g2
  rw[hce] at g1
  exact ⟨acc',g1,g2⟩
theorem qJ3(n:Nat)(b:Bk)(K:Okay b.1)(B:Bnd b.1)(hb:∀m,m∈b.2→m∈b.1.2.1∧m.1=1)(hbl:b.2.length<1000)(hn:2000≤n):∀(Y A:List Msg) (n':Nat) (acc:List Int),b.2=A++Y→AcI (b.1.2.2.1+2).toNat (fun j=>(A.map fun m=>msgC b.1 m j).sum) acc→Y.length<n' →
  ∃acc',AcI (b.1.2.2.1+2).toNat (fun j=>(b.2.map fun m=>msgC b.1 m j).sum) acc'∧qb n' (qgs n) (b.1.2.2.1,(b.1.2.2.1+1,(b.2,((b.2.length:Int),((A.length:Int),(b,(acc,())))))))=some (b,(acc',())):=by
 intro Y
 induction Y with
 | nil =>
  intro A n' acc e ha hn'
  obtain ⟨n',rfl⟩:∃j,n'=j+1:=⟨n'-1,by simp at hn';omega⟩
  rw[List.append_nil] at e
  refine ⟨acc,ha.congr fun j=>by rw[e],?_⟩
  rw[qc,qih,e]
  simp only[qB,cond_false]
 | cons x Y ih =>
  intro A n' acc e ha hn'
  obtain ⟨n',rfl⟩:∃j,n'=j+1:=⟨n'-1,by simp at hn';omega⟩
  have hlen:b.2.length=A.length+(Y.length+1):=by rw[e,List.length_append,List.length_cons]
  have hlt:A.length<b.2.length:=by omega
  have hx:=hb x (by rw[e];simp)
  have hst:=K.v.st x hx.1
  have hlat:lat b.2 (A.length:Int)=some x:=by rw[e];exact latA A Y x rfl
  rw[qc,qih]
  simp only[qv hlt,cond_true,hlat,Option.bind_some]
  obtain ⟨acc1,h1,h2⟩:=qJ2 n b K B x hx.1 hx.2 b.2 (b.2.length:Int) (A.length:Int) hn (fun j=>(A.map fun m=>msgC b.1 m j).sum) x.2.2.2.2 [] n acc rfl (ha.congr fun j=>by simp) (by omega)
  rw[show ((0:Int))=(([]:List Stay).length:Int) from rfl,h2]
  simp only[Option.bind_some,qi (show A.length<9223372036854775807 by omega)]
  obtain ⟨acc',g1,g2⟩:=ih (A++[x]) n' acc1 (by rw[e];simp) (h1.congr fun j=>(qxW (fun m=>msgC b.1 m j) A x).symm) (by simp at hn';omega)
  rw[List.length_append] at g2
  exact ⟨acc',g1,g2⟩
theorem qJ4(n:Nat)(b:Bk)(K:Okay b.1)(B:Bnd b.1)(hn:2000≤n)(V:Nat→Int):∀(Y A:List Work) (n':Nat) (acc:List Int),b.1.2.2.2.2.2.2.2.1=A++Y→AcI (b.1.2.2.1+2).toNat (fun j=>V j+(A.map fun w=>qs2 b.1 w j).sum) acc→Y.length<n' →
  ∃acc',AcI (b.1.2.2.1+2).toNat (fun j=>V j+(b.1.2.2.2.2.2.2.2.1.map fun w=>qs2 b.1 w j).sum) acc'∧qb n' (qgt n) (b.1.2.2.2.2.2.2.2.1,((b.1.2.2.2.2.2.2.2.1.length:Int),((A.length:Int),(b,(acc,())))))=some (acc',()):=by
 have hwl:=K.wl
 have hcl0:=K.cl
 intro Y
 induction Y with
 | nil =>
  intro A n' acc e ha hn'
  obtain ⟨n',rfl⟩:∃j,n'=j+1:=⟨n'-1,by simp at hn';omega⟩
  rw[List.append_nil] at e
  refine ⟨acc,ha.congr fun j=>by rw[e],?_⟩
  rw[qc,qii,e]
  simp only[qB,cond_false]
 | cons x Y ih =>
  intro A n' acc e ha hn'
  obtain ⟨n',rfl⟩:∃j,n'=j+1:=⟨n'-1,by simp at hn';omega⟩
  have hlen:b.1.2.2.2.2.2.2.2.1.length=A.length+(Y.length+1):=by rw[e,List.length_append,List.length_cons]
  have hlt:A.length<b.1.2.2.2.2.2.2.2.1.length:=by omega
  have hxm:x∈b.1.2.2.2.2.2.2.2.1:=by rw[e];simp
  have hx:=K.wo x hxm
  have hw:=qiY (B.wk x hxm).1 (B.wk x hxm).2 B.cr.1 B.cr.2
  have hv:iW (iMul x.2.2 b.1.2.2.2.2.2.2.2.2.2.2.2)=x.2.2*b.1.2.2.2.2.2.2.2.2.2.2.2:=qM (by unfold iMul;omega) (by unfold iMul;omega)
  have hlat:lat b.1.2.2.2.2.2.2.2.1 (A.length:Int)=some x:=by rw[e];exact latA A Y x rfl
  obtain ⟨c,hce⟩:=Int.eq_ofNat_of_zero_le hx.1.1
  have hal:=ha.1
  have hcl:c<acc.length:=by omega
  rw[qc,qii]
  simp only[qv hlt,cond_true,hlat,Option.bind_some,hv,hce,qw _ hcl,Int.toNat_natCast,List.getElem?_eq_getElem hcl,qi (show A.length<9223372036854775807 by omega)]
  obtain ⟨v,hve⟩:∃v,v=x.2.2*b.1.2.2.2.2.2.2.2.2.2.2.2:=⟨_,rfl⟩
  rw[← hve] at hw ⊢
  have d1:=qk9 (iAdd acc[c] v)
  have hput:=ha.put hcl (y:=v) (qAN (iAdd acc[c] v)) (by unfold iAdd at *;omega)
  obtain ⟨acc1,h1,h3⟩:=qDl n v x.2.1 (-1) (.inr rfl) b K B (acc.set c (iW (iAdd acc[c] v))) _ (by omega) (by omega) hput hn
  rw[show Int.negSucc 0=(-1:Int) from rfl,h3]
  simp only[Option.bind_some]
  obtain ⟨acc',g1,g2⟩:=ih (A++[x]) n' acc1 (by rw[e];simp) (h1.congr fun j=>by
   rw[qxW]
   unfold qs2
   rw[← hve,hce]
   by_cases hj:j=c
   ·rw[if_pos hj,if_pos (by omega)];omega
   ·rw[if_neg hj,if_neg (by omega)];omega) (by simp at hn';omega)
  rw[List.length_append] at g2
  exact ⟨acc',g1,g2⟩
theorem qCz(n:Nat)(u:Uni)(hs:Small11 u)(K:Okay u)(h:chkU u=0)(hn:5000≤n):∃acc,AcI (u.2.2.1+2).toNat (accT u (qdd u)) acc∧qju n (u,())=some (acc,(0,())):=by
 have B:=qBZ h
 have hc:=K.cl
 have hbl:=quQ u
 have hms:=K.ms
 have hwl:=K.wl
 have e1:iW (iAdd u.2.2.1 2)=u.2.2.1+2:=qM (by unfold iAdd;omega) (by unfold iAdd;omega)
 have e2:iW (iAdd u.2.2.1 1)=u.2.2.1+1:=qM (by unfold iAdd;omega) (by unfold iAdd;omega)
 rw[qpI]
 simp only[qxT n u hs K h hn,Option.bind_some,Sum.elim_inl,qev rfl,cond_false,e1,e2,qcC (qb4 (rfl:u.2.2.1+2=u.2.2.1+2)),qcC (show iMk (u.2.2.1+2)=true by unfold iMk;simp only[Bool.and_eq_true,decide_eq_true_eq];omega)]
 have h0:AcI (u.2.2.1+2).toNat (fun j=>(([]:List Msg).map fun m=>msgC u m j).sum) (List.replicate (u.2.2.1+2).toNat 0) :=
  ⟨List.length_replicate,fun j hj=>by rw[List.getElem_replicate];simp⟩
 obtain ⟨acc1,h1,h2⟩:=qJ3 n (u,qdd u) K B (fun m hm=>by have:=quP K.v hm;exact ⟨this.2.1,this.2.2.1⟩) (by show (qdd u).length<_;omega) (by omega) (qdd u) [] n _ rfl h0 (by omega)
 obtain ⟨acc2,h3,h4⟩:=qJ4 n (u,qdd u) K B (by omega) (fun j=>((qdd u).map fun m=>msgC u m j).sum) u.2.2.2.2.2.2.2.1 [] n acc1 rfl (h1.congr fun j=>by simp) (by omega)
 refine ⟨acc2,h3,?_⟩
 have h2':qb n (qgs n) (u.2.2.1,(u.2.2.1+1,(qdd u,(((qdd u).length:Int),((0:Int),((u,qdd u),(List.replicate (u.2.2.1+2).toNat 0,())))))))=some ((u,qdd u),(acc1,())):=h2
 have h4':qb n (qgt n) (u.2.2.2.2.2.2.2.1,((u.2.2.2.2.2.2.2.1.length:Int),((0:Int),((u,qdd u),(acc1,())))))=some (acc2,()):=h4
 rw[h2']
 simp only[Option.bind_some]
 rw[h4']
 rfl
theorem qyU{u:Uni}(h:chkU u=0):chkN u.1 u.2.1=0∧uniB u=true:=by
 unfold chkU at h
 by_cases hk:chkN u.1 u.2.1=0
 ·rw[if_pos hk] at h
  refine ⟨hk,?_⟩
  cases hu:uniB u with
  | true=>rfl
  | false=>rw[hu] at h;exact absurd h (by decide)
 ·rw[if_neg hk] at h;exact absurd h hk
theorem qB6{u:Uni}(hs:Small11 u)(h:chkU u=0):Okay u:=by
 refine qDc hs ?_ h
 have h1:=(qC3 (qyU h).1).2.2.1
 rcases hs.ln with h | h<;>omega
theorem qJ5{u:Uni}(h:chkU u=0):0≤u.2.2.2.2.2.2.2.2.2.2.1∧u.2.2.2.2.2.2.2.2.2.2.1≤100000:=by
 have hb:=(qyU h).2
 unfold uniB at hb
 simp only[Bool.and_eq_true,decide_eq_true_eq,List.all_eq_true,q7] at hb
 obtain ⟨-,-,-,-,-,-,-,-,-,-,-,-,-,c14,-⟩:=hb
 exact c14
end Go.Proofs.YtcjcacbhkoainaaGreatDoor
