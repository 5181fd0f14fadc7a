/- Texts Dv14, Dv15, Dv16, Dv17, Dv18, Dv19, Dv20 in one. -/
import Derived.Test.YtcjcacbhkoainaaGreatDoorVb
/- Clubs: the stable sort of at most 8 debts. -/
set_option linter.constructorNameAsVariable false
set_option linter.unusedSimpArgs false
set_option linter.unusedVariables false
set_option linter.unusedSectionVars false
namespace Go.Proofs.YtcjcacbhkoainaaGreatDoor
open Go Go.Proofs Go.RowKit
set_option maxHeartbeats 1000000
def insD(v:Debt):List Debt→List Debt
 | []=>[v]
 | x::Q=>if v.2<x.2 then x::insD v Q else v::x::Q
theorem qDq{v x:Debt}{Q:List Debt}(h:v.2<x.2):insD v (x::Q)=x::insD v Q:=if_pos h
theorem qDr{v x:Debt}{Q:List Debt}(h:¬v.2<x.2):insD v (x::Q)=v::x::Q:=if_neg h
theorem qs3(v:Debt):∀Q:List Debt,(insD v Q).Perm (v::Q)
 | []=>List.Perm.refl _
 | x::Q=>by
  unfold insD
  split
  ·exact ((qs3 v Q).cons x).trans (List.Perm.swap _ _ _)
  ·exact List.Perm.refl _
theorem qxk{v:Debt}:∀{Q:List Debt},Q.Pairwise (fun x y=>y.2≤x.2)→(insD v Q).Pairwise (fun x y=>y.2≤x.2)
 | [],_=>List.pairwise_singleton _ _
 | x::Q,h=>by
  rw[List.pairwise_cons] at h
  by_cases hlt:v.2<x.2
  ·rw[qDq hlt,List.pairwise_cons]
   refine ⟨fun y hy=>?_,qxk h.2⟩
   rcases List.mem_cons.1 ((qs3 v Q).mem_iff.1 hy) with rfl | hy
   ·omega
   ·exact h.1 y hy
  ·rw[qDr hlt,List.pairwise_cons,List.pairwise_cons]
   refine ⟨fun y hy=>?_,h.1,h.2⟩
   rcases List.mem_cons.1 hy with rfl | hy
   ·omega
   ·have:=h.1 y hy;omega
def qrz(Q B:List Debt):List Debt:=B.foldl (fun Q v=>insD v Q) Q
theorem qyY:∀(B Q:List Debt),(qrz Q B).Perm (Q++B)
 | [],Q=>by unfold qrz;simp
 | v::B,Q=>by
  have:=qyY B (insD v Q)
  refine this.trans ?_
  refine (List.Perm.append_right B (qs3 v Q)).trans ?_
  exact (List.perm_middle).symm
theorem qwo:∀(B:List Debt) {Q:List Debt},Q.Pairwise (fun x y=>y.2≤x.2)→(qrz Q B).Pairwise (fun x y=>y.2≤x.2)
 | [],_,h=>h
 | v::B,Q,h=>qwo B (Q:=insD v Q) (qxk h)
theorem qHL(n:Nat)(x y:Debt):qq2 n (x,(y,()))=some (cmpI x.2 y.2,()):=by
 rw[qxO]
 simp only[qrD,Option.bind_some]
theorem qKb(n:Nat)(b i:Int)(v:Debt):∀(Q B:List Debt) (m:Nat),Q.length<1000→Q.length<m →
  qb m (qcd n) ((0:Int),(b,(((),()),(i,((Q.length:Int),(Q.reverse++v::B,()))))))=some ((0:Int),(b,(((),()),(i,((insD v Q).reverse++B,()))))):=by
 intro Q
 induction Q with
 | nil =>
  intro B m hl0 hm
  obtain ⟨m,rfl⟩:∃j,m=j+1:=⟨m-1,by simp at hm;omega⟩
  rw[qc,qdy]
  rfl
 | cons x Q ih =>
  intro B m hl0 hm
  obtain ⟨m,rfl⟩:∃j,m=j+1:=⟨m-1,by simp at hm;omega⟩
  simp only[List.length_cons] at hl0 hm
  rw[qc,qdy]
  have hd0:(x::Q).reverse++v::B=Q.reverse++x::v::B:=by simp
  have hd1:(x::Q).reverse++v::B=(Q.reverse++[x])++v::B:=by simp
  have hQ:Q.reverse.length=Q.length:=List.length_reverse
  have hQ1:(Q.reverse++[x]).length=Q.length+1:=by simp
  have e1:lat ((x::Q).reverse++v::B) ((Q.length+1:Nat):Int)=some v:=by rw[hd1];exact latA _ _ _ hQ1
  have e2:lat ((x::Q).reverse++v::B) (Q.length:Int)=some x:=by rw[hd0];exact latA _ _ _ hQ
  have e3:((x::Q).reverse++v::B)[Q.length+1]?=some v:=by rw[hd1];exact getA _ _ _ hQ1
  have e4:((x::Q).reverse++v::B)[Q.length]?=some x:=by rw[hd0];exact getA _ _ _ hQ
  have e5:((x::Q).reverse++v::B).set (Q.length+1) x=(Q.reverse++[x])++x::B:=by rw[hd1];exact qph _ _ _ _ hQ1
  have e6:(Q.reverse++[x])++x::B=Q.reverse++x::x::B:=by simp
  have hpos:iGt ((Q.length+1:Nat):Int) 0=true:=decide_eq_true (by omega)
  simp only[List.length_cons,hpos,cond_true,qk8 (show Q.length<9223372036854775807 by omega),e1,e2,e3,e4,Option.bind_some,Int.toNat_natCast,qHL,qDh]
  by_cases hlt:v.2<x.2
  ·rw[show decide (v.2<x.2)=true from decide_eq_true hlt]
   simp only[cond_true,e5]
   rw[e6]
   simp only[latA _ _ _ hQ,getA _ _ _ hQ,qph _ _ _ _ hQ,Option.bind_some]
   have:=ih (x::B) m (by omega) (by omega)
   rw[this,qDq hlt]
   simp
  ·rw[show decide (v.2<x.2)=false from decide_eq_false hlt]
   simp only[cond_false]
   rw[qDr hlt]
   simp
theorem qKc(n:Nat)(L:Nat)(hL:L<1000)(hn:2000≤n):∀(B Q:List Debt) (m:Nat),Q.length+B.length=L→B.length<m →
  qb m (qbk n) ((0:Int),((L:Int),(((),()),((Q.length:Int),(Q.reverse++B,())))))=some ((qrz Q B).reverse,()):=by
 intro B
 induction B with
 | nil =>
  intro Q m hk hm
  obtain ⟨m,rfl⟩:∃j,m=j+1:=⟨m-1,by simp at hm;omega⟩
  rw[qc,qbW]
  simp only[show iLt (Q.length:Int) (L:Int)=false from decide_eq_false (by simp at hk;omega),cond_false,List.append_nil]
  rfl
 | cons v B ih =>
  intro Q m hk hm
  obtain ⟨m,rfl⟩:∃j,m=j+1:=⟨m-1,by simp at hm;omega⟩
  simp only[List.length_cons] at hk hm
  rw[qc,qbW]
  have h1:=qKb n (L:Int) (Q.length:Int) v Q B n (by omega) (by omega)
  simp only[show iLt (Q.length:Int) (L:Int)=true from decide_eq_true (by omega),cond_true,h1,Option.bind_some,qi (show Q.length<9223372036854775807 by omega)]
  have hp:=qs3 v Q
  have hlen:(insD v Q).length=Q.length+1:=by rw[hp.length_eq];simp
  have:=ih (insD v Q) m (by omega) (by omega)
  rw[hlen] at this
  exact this
theorem qHM(n:Nat)(d:List Debt)(hdl:d.length<20)(hn:2000≤n):qc2 n (((),()),(d,()))=some ((qrz [] d).reverse,()):=by
 have h3:qb n (qbk n) ((0:Int),((d.length:Int),(((),()),(((1:Nat):Int),(d,())))))=some ((qrz [] d).reverse,()):=by
  cases d with
  | nil =>
   obtain ⟨m,rfl⟩:∃m,n=m+1:=⟨n-1,by omega⟩
   rw[qc,qbW]
   rfl
  | cons x d=>exact qKc n (d.length+1) (by simp at hdl;omega) hn d [x] n (by simp;omega) (by simp at hdl;omega)
 obtain ⟨n,rfl⟩:∃m,n=m+1:=⟨n-1,by omega⟩
 rw[qi7,qjy]
 simp only[qc]
 rw[qiW]
 simp only[show iLe (20:Int) (d.length:Int)=false from decide_eq_false (by omega),cond_false,Option.bind_some,qhK]
 rw[show iW (iAdd (0:Int) 1)=((1:Nat):Int) from rfl,h3]
 simp only[Option.bind_some]
 rw[qiX]
 simp only[show iLt (20:Int) (d.length:Int)=false from decide_eq_false (by omega),cond_false,Option.bind_some]
def nzB(p:Debt):Bool:=!decide (p.2=0)
theorem qF4(n:Nat)(p:Debt):qga n (p,())=some (!nzB p,()):=by
 rw[qpq]
 unfold nzB
 by_cases h:p.2=0
 ·rw[decide_eq_true h];simp only[qb4 h];rfl
 ·rw[decide_eq_false h]
  show some (iEq p.2 0,())=some (false,())
  rw[show iEq p.2 0=false by simp[iEq,h]]
theorem qKd(n:Nat)(d:List Debt)(hd:d.length<1000):∀(Y A:List Debt) (n':Nat),d=A++Y→A.all nzB=true→Y.length<n' →
  (∃P z R,d=P++z::R∧P.all nzB=true∧nzB z=false∧qb n' (qz n) (((),()),((d.length:Int),((A.length:Int),(d,()))))=some (.inr ((P.length:Int),(d,())))) ∨
  (d.all nzB=true∧qb n' (qz n) (((),()),((d.length:Int),((A.length:Int),(d,()))))=some (.inl (d,()))):=by
 intro Y
 induction Y with
 | nil =>
  intro A n' e hA hn
  obtain ⟨n',rfl⟩:∃j,n'=j+1:=⟨n'-1,by simp at hn;omega⟩
  rw[List.append_nil] at e
  right
  refine ⟨by rw[e];exact hA,?_⟩
  rw[qc,qcW]
  simp only[show iLt (A.length:Int) (d.length:Int)=false from decide_eq_false (by rw[e];omega),cond_false]
 | cons x Y ih =>
  intro A n' e hA hn
  obtain ⟨n',rfl⟩:∃j,n'=j+1:=⟨n'-1,by simp at hn;omega⟩
  have hlen:d.length=A.length+(Y.length+1):=by rw[e,List.length_append,List.length_cons]
  have e1:lat d (A.length:Int)=some x:=by rw[e];exact latA A Y x rfl
  have e2:d[A.length]?=some x:=by rw[e];exact getA A Y x rfl
  rw[qc,qcW]
  simp only[show iLt (A.length:Int) (d.length:Int)=true from decide_eq_true (by omega),cond_true,e1,Option.bind_some,Int.toNat_natCast,e2,qF4,qi (show A.length<9223372036854775807 by omega)]
  cases hx:nzB x with
  | false=>exact .inl ⟨A,x,Y,e,hA,hx,rfl⟩
  | true =>
   have:=ih (A++[x]) n' (by rw[e];simp) (by rw[List.all_append,hA];simp[hx]) (by simp at hn;omega)
   rw[List.length_append] at this
   exact this
theorem qJg(n:Nat):∀(Y P R:List Debt) (n':Nat),R≠[]→P.length+R.length+Y.length<1000→Y.length<n' →
  ∃R',qb n' (qbV n) (((),()),((P.length:Int),(((P.length+R.length:Nat):Int),(P++R++Y,()))))=some (((P++Y.filter nzB).length:Int),(P++Y.filter nzB++R',()))∧(P++Y.filter nzB).length+R'.length=P.length+R.length+Y.length:=by
 intro Y
 induction Y with
 | nil =>
  intro P R n' hR hl hn
  obtain ⟨n',rfl⟩:∃j,n'=j+1:=⟨n'-1,by simp at hn;omega⟩
  refine ⟨R,?_,by simp⟩
  rw[qc,qdc]
  simp only[List.append_nil,show iLt ((P.length+R.length:Nat):Int) ((P++R).length:Int)=false from decide_eq_false (by rw[List.length_append];omega),cond_false,List.filter_nil]
 | cons y Y ih =>
  intro P R n' hR hl hn
  obtain ⟨n',rfl⟩:∃j,n'=j+1:=⟨n'-1,by simp at hn;omega⟩
  simp only[List.length_cons] at hl hn
  rw[qc,qdc]
  have hpr:(P++R).length=P.length+R.length:=List.length_append ..
  have e1:lat (P++R++y::Y) ((P.length+R.length:Nat):Int)=some y:=latA (P++R) Y y hpr
  have e2:(P++R++y::Y)[P.length+R.length]?=some y:=getA (P++R) Y y hpr
  have hlt:iLt ((P.length+R.length:Nat):Int) ((P++R++y::Y).length:Int)=true:=decide_eq_true (by rw[List.length_append,hpr,List.length_cons];omega)
  simp only[hlt,cond_true,e1,Option.bind_some,Int.toNat_natCast,e2,qF4,Bool.not_not]
  have hs2:iW (iAdd ((P.length+R.length:Nat):Int) 1)=((P.length+R.length+1:Nat):Int):=qi (by omega)
  rw[hs2]
  cases hy:nzB y with
  | false =>
   simp only[cond_false]
   obtain ⟨R',h1,h2⟩:=ih P (R++[y]) n' (by simp) (by simp;omega) (by omega)
   rw[List.length_append,List.length_singleton] at h1
   rw[show P++(R++[y])++Y=P++R++y::Y by simp] at h1
   refine ⟨R',?_,?_⟩
   ·rw[List.filter_cons_of_neg (by rw[hy];decide)];exact h1
   ·rw[List.filter_cons_of_neg (by rw[hy];decide)]
    simp only[List.length_append,List.length_cons,List.length_nil] at h2 ⊢;omega
  | true =>
   obtain ⟨r,R0,rfl⟩:∃r R0,R=r::R0:=by cases R with
    | nil=>exact absurd rfl hR
    | cons r R0=>exact ⟨r,R0,rfl⟩
   have hsh:P++r::R0++y::Y=P++r::(R0++y::Y):=by simp
   have e3:lat (P++r::R0++y::Y) (P.length:Int)=some r:=by rw[hsh];exact latA P _ r rfl
   have e4:(P++r::R0++y::Y)[P.length]?=some r:=by rw[hsh];exact getA P _ r rfl
   have e5:(P++r::R0++y::Y).set P.length y=(P++[y])++(R0++[y])++Y:=by rw[hsh,qph P _ r y rfl];simp
   simp only[cond_true,e3,e4,Option.bind_some,qi (show P.length<9223372036854775807 by omega)]
   rw[e5]
   obtain ⟨R',h1,h2⟩:=ih (P++[y]) (R0++[y]) n' (by simp) (by simp at hl ⊢;omega) (by omega)
   rw[show (P++[y]).length=P.length+1 by simp,show P.length+1+(R0++[y]).length=P.length+(r::R0).length+1 by simp;omega] at h1
   refine ⟨R',?_,?_⟩
   ·rw[List.filter_cons_of_pos hy,show P++y::Y.filter nzB=P++[y]++Y.filter nzB by simp];exact h1
   ·rw[List.filter_cons_of_pos hy]
    simp only[List.length_append,List.length_cons,List.length_nil] at h2 ⊢;omega
theorem qB9{len k:Nat}(h:k≤len):cutO len (k:Int)=some k:=by
 unfold cutO
 rw[if_pos ⟨by omega,by omega⟩,Int.toNat_natCast]
theorem qEi(n:Nat)(d:List Debt)(hd:d.length<1000)(hn:2000≤n):∃X k,qb3 n (((),()),(d,()))=some (X,((0,k),()))∧k≤X.length∧X.take k=d.filter nzB:=by
 rw[qhe,qgH]
 rcases qKd n d hd d [] n rfl rfl (by omega) with ⟨P,z,R,e,h1,h2,h3⟩ | ⟨h1,h2⟩
 ·have h3':qb n (qz n) (((),()),((d.length:Int),((0:Int),(d,()))))=_:=h3
  simp only[h3',Option.bind_some,Sum.elim_inr]
  have hne:iEq (P.length:Int) (Int.negSucc 0)=false:=by simp[iEq]
  have hPl:P.length+1+R.length=d.length:=by rw[e];simp;omega
  obtain ⟨R',h4,h5⟩:=qJg n R P [z] n (by simp) (by simp;omega) (by omega)
  rw[show P++[z]++R=d by rw[e];simp,List.length_singleton] at h4
  simp only[hne,cond_false,qi (show P.length<9223372036854775807 by omega),h4,Option.bind_some]
  have hf:d.filter nzB=P++R.filter nzB:=by
   rw[e,List.filter_append,List.filter_cons_of_neg (by rw[h2];decide),List.filter_eq_self.2 fun x hx=>List.all_eq_true.1 h1 x hx]
  rw[hf]
  generalize P++R.filter nzB=Q at *
  have hk:Q.length≤(Q++R').length:=by rw[List.length_append];omega
  rw[qB9 hk]
  simp only[Option.bind_some]
  rw[qcC (show Nat.ble (Q.length+((Q++R').length-Q.length)) (Q++R').length=true by rw[Nat.ble_eq];omega)]
  simp only[Option.bind_some]
  have hX:List.append (List.append (List.take Q.length (Q++R')) (List.replicate ((Q++R').length-Q.length) ((0:Int),(0:Int)))) (List.drop (nAdd Q.length ((Q++R').length-Q.length)) (Q++R'))=Q++(List.replicate ((Q++R').length-Q.length) ((0:Int),(0:Int))++List.drop (nAdd Q.length ((Q++R').length-Q.length)) (Q++R')):=by
   rw[List.take_left]
   show (Q++_)++_=_
   rw[List.append_assoc]
  rw[hX]
  generalize (List.replicate ((Q++R').length-Q.length) ((0:Int),(0:Int))++List.drop (nAdd Q.length ((Q++R').length-Q.length)) (Q++R'))=Z
  rw[qB9 (show Q.length≤(Q++Z).length by rw[List.length_append];omega)]
  exact ⟨_,_,rfl,by rw[List.length_append];omega,List.take_left⟩
 ·have h2':qb n (qz n) (((),()),((d.length:Int),((0:Int),(d,()))))=_:=h2
  simp only[h2',Option.bind_some,Sum.elim_inl]
  refine ⟨d,d.length,rfl,Nat.le_refl _,?_⟩
  rw[List.take_length,List.filter_eq_self.2 fun x hx=>List.all_eq_true.1 h1 x hx]
theorem qEj{p q:Nat→Bool}{i:Nat}(hp:p i=true)(hlow:∀j,j<i→p j=false)(hq:∀j,q j=(p j && !decide (i=j))):∀L,i<L→(List.range L).filter p=i::(List.range L).filter q:=by
 intro L
 induction L with
 | zero=>intro h;exact absurd h (Nat.not_lt_zero _)
 | succ L ih =>
  intro h
  rw[List.range_succ,List.filter_append,List.filter_append]
  by_cases e:i=L
  ·subst e
   have h1:(List.range i).filter p=[]:=List.filter_eq_nil_iff.2 fun j hj=>by rw[hlow j (List.mem_range.1 hj)];decide
   have h2:(List.range i).filter q=[]:=List.filter_eq_nil_iff.2 fun j hj=>by rw[hq,hlow j (List.mem_range.1 hj)];simp
   rw[h1,h2,List.filter_cons_of_pos hp,List.filter_cons_of_neg (by rw[hq];simp)]
   rfl
  ·rw[ih (by omega),List.cons_append]
   have:q L=p L:=by rw[hq,decide_eq_false e,Bool.not_false,Bool.and_true]
   rw[List.filter_cons,List.filter_cons,this]
   rfl
theorem qJh(l:List Int):dl l 0=[]:=by
 unfold dl
 rw[List.filter_eq_nil_iff.2 fun i _=>by rw[Nat.zero_testBit];decide]
 rfl
theorem qF5{l:List Int}{m:Nat}(hm:m<256)(h0:m≠0)(hi:InL l m):dl l m=((lowI m:Int),(l[lowI m]?).getD 0)::dl l (m ^^^ lowN m):=by
 obtain ⟨g1,g2,g3,g4⟩:=qqM m hm h0
 unfold dl
 rw[qEj g2 g4 (q:=(m ^^^ lowN m).testBit) (fun j=>by rw[qbm g3,show lowN m=2 ^ lowI m from rfl,qoB]) _ (hi _ g2),List.map_cons]
theorem qJi(n:Nat)(l:List Int)(out:List Stay):∀(k m:Nat) (A:List Debt) (n':Nat),m≤k→m<256→InL l m→m<n'→A.length+m≤1000 →
  qb n' (qiv n) (l,((m:Int),(out,(A,()))))=some (out,(A++dl l m,())):=by
 intro k
 induction k with
 | zero =>
  intro m A n' hk hm hi hn ha
  obtain ⟨n',rfl⟩:∃j,n'=j+1:=⟨n'-1,by omega⟩
  rw[show m=0 by omega,qc,qkF]
  simp only[show iNe ((0:Nat):Int) 0=false from rfl,cond_false,qJh,List.append_nil]
 | succ k ih =>
  intro m A n' hk hm hi hn ha
  by_cases h0:m=0
  ·exact ih m A n' (by omega) hm hi hn ha
  obtain ⟨n',rfl⟩:∃j,n'=j+1:=⟨n'-1,by omega⟩
  obtain ⟨g1,g2,g3,g4⟩:=qqM m hm h0
  have hlt:=hi _ g2
  have hd:=qt8 m hm h0
  rw[qc,qkF]
  simp only[qhM (show ((m:Nat):Int)≠0 by omega),cond_true,qId n m hm h0,Option.bind_some,qw l hlt,qIb m hm h0]
  rw[qcC (show Nat.ble (nAdd A.length 1) 8796093022208=true by rw[Nat.ble_eq];unfold nAdd;omega)]
  simp only[Option.bind_some]
  have:=ih (m ^^^ lowN m) (A++[((lowI m:Int),l[lowI m])]) n' (by omega) (by omega) (hi.sub (quT g3)) (by omega) (by rw[List.length_append,List.length_singleton];omega)
  rw[show List.append A [((lowI m:Int),l[lowI m])]=A++[((lowI m:Int),l[lowI m])] from rfl,this,qF5 hm h0 hi,List.getElem?_eq_getElem hlt]
  simp
def AmtB(d:List Debt):Prop:=∀p,p∈d→-1000000000≤p.2∧p.2≤1000000000
theorem qEk{R:List Debt}(h:2≤R.length):∃x mid z,R=x::(mid++[z]):=by
 match R,h with
 | x::R,h =>
  have hne:R≠[]:=fun e=>by rw[e] at h;simp at h
  exact ⟨x,R.dropLast,R.getLast hne,by rw[List.dropLast_concat_getLast hne]⟩
theorem qHN(n:Nat)(hn0:2000≤n):∀(k:Nat) (d:List Debt) (out:List Stay) (n':Nat),d.length≤k→d.length<20→DOk d→AmtB d→k<n'→out.length+d.length≤1000 →
  ∃ts,Trs d ts∧(∀t,t∈ts→t.2.2≤1000000000)∧qb n' (qiw n) (out,(d,()))=some (out++ts,()):=by
 intro k
 induction k with
 | zero =>
  intro d out n' hk _ hD hA hn ho
  obtain ⟨n',rfl⟩:∃j,n'=j+1:=⟨n'-1,by omega⟩
  refine ⟨[],.done d (by omega),fun t ht=>absurd ht List.not_mem_nil,?_⟩
  rw[qc,qkG]
  simp only[show iGt (d.length:Int) 1=false from decide_eq_false (by omega),cond_false,List.append_nil]
 | succ k ih =>
  intro d out n' hk h20 hD hA hn ho
  obtain ⟨n',rfl⟩:∃j,n'=j+1:=⟨n'-1,by omega⟩
  rw[qc,qkG]
  by_cases h1:d.length≤1
  ·refine ⟨[],.done d h1,fun t ht=>absurd ht List.not_mem_nil,?_⟩
   simp only[show iGt (d.length:Int) 1=false from decide_eq_false (by omega),cond_false,List.append_nil]
  have hp0:((qrz [] d).reverse).Perm d:=(List.reverse_perm _).trans ((qyY d []).trans (by simp))
  have hsort:((qrz [] d).reverse).Pairwise (fun x y=>x.2≤y.2):=List.pairwise_reverse.2 (qwo d List.Pairwise.nil)
  simp only[show iGt (d.length:Int) 1=true from decide_eq_true (by omega),cond_true,qHM n d h20 hn0,Option.bind_some]
  obtain ⟨x,mid,z,hR⟩:=qEk (R:=(qrz [] d).reverse) (by rw[hp0.length_eq];omega)
  rw[hR] at hp0 hsort ⊢
  have hlen:=hp0.length_eq
  simp only[List.length_cons,List.length_append,List.length_nil] at hlen
  have hpx:d.Perm (x::z::mid):=hp0.symm.trans ((List.perm_append_singleton z mid).cons x)
  rw[List.pairwise_cons,List.pairwise_append] at hsort
  obtain ⟨s1,s2,s3,s4⟩:=hsort
  have hxz:x.2≤z.2:=s1 z (by simp)
  have hb:∀p,p∈d→x.2≤p.2∧p.2≤z.2:=fun p hp=>by
   rcases List.mem_cons.1 (hpx.mem_iff.1 hp) with rfl | hp
   ·exact ⟨Int.le_refl _,hxz⟩
   ·rcases List.mem_cons.1 hp with rfl | hp
    ·exact ⟨hxz,Int.le_refl _⟩
    ·exact ⟨s1 p (by simp[hp]),s4 p hp z (by simp)⟩
  have hsg:=qEh (hD.perm hpx) fun p hp=>hb p (hpx.mem_iff.2 hp)
  have hx:=hA x (hpx.mem_iff.2 List.mem_cons_self)
  have hz:=hA z (hpx.mem_iff.2 (List.mem_cons_of_mem _ List.mem_cons_self))
  have hn1:iMin (iW (iNeg x.2)) z.2=min (-x.2) z.2:=by
   have hneg:iNeg x.2 = -x.2:=by unfold iNeg;omega
   rw[hneg,show iW (-x.2) = -x.2 from qM (by omega) (by omega)]
   unfold iMin
   split<;>omega
  have hl1:iW (iSub ((x::(mid++[z])).length:Int) 1)=((mid.length+1:Nat):Int):=by
   rw[show (x::(mid++[z])).length=mid.length+1+1 by simp]
   exact qk8 (by omega)
  have e1:lat (x::(mid++[z])) (0:Int)=some x:=rfl
  have e3:(x::(mid++[z]))[mid.length+1]?=some z:=by rw[List.getElem?_cons_succ];simp
  have e2:lat (x::(mid++[z])) ((mid.length+1:Nat):Int)=some z:=by
   unfold lat
   rw[if_pos (by omega),Int.toNat_natCast,e3]
  have e4:(x::(mid++[z]))[(0:Int).toNat]?=some x:=rfl
  generalize hnn:min (-x.2) z.2=m at *
  have hm1:m≤z.2∧m≤-x.2∧0<m:=by omega
  have hxm:iW (iAdd x.2 m)=x.2+m:=qM (by unfold iAdd;omega) (by unfold iAdd;omega)
  have hzm:iW (iSub z.2 m)=z.2-m:=qM (by unfold iSub;omega) (by unfold iSub;omega)
  have e5:((x::(mid++[z])).set (0:Int).toNat (x.1,x.2+m))=(x.1,x.2+m)::(mid++[z]):=rfl
  have e6:((x.1,x.2+m)::(mid++[z]))[mid.length+1]?=some z:=by rw[List.getElem?_cons_succ];simp
  have e7:((x.1,x.2+m)::(mid++[z])).set (mid.length+1) (z.1,z.2-m)=(x.1,x.2+m)::(mid++[(z.1,z.2-m)]):=by rw[List.set_cons_succ];simp
  simp only[hl1,e1,e2,e4,Int.toNat_natCast,e3,Option.bind_some,hn1,hxm,e5,e6,hzm,e7]
  rw[qcC (show Nat.ble (nAdd out.length 1) 5864062014805=true by rw[Nat.ble_eq];unfold nAdd;omega)]
  simp only[Option.bind_some]
  obtain ⟨X,q,hX,hq,hXf⟩:=qEi n ((x.1,x.2+m)::(mid++[(z.1,z.2-m)])) (by simp;omega) hn0
  simp only[hX,Option.bind_some,show Nat.beq 0 0=true from rfl,cond_true,show Nat.ble q X.length=true by rw[Nat.ble_eq];exact hq,hXf]
  have hr:(((x.1,x.2+m)::(mid++[(z.1,z.2-m)])).filter nzB).Perm (((x.1,x.2+m)::(z.1,z.2-m)::mid).filter fun p=>!decide (p.2=0)):=((List.perm_append_singleton (z.1,z.2-m) mid).cons (x.1,x.2+m)).filter nzB
  generalize ((x.1,x.2+m)::(mid++[(z.1,z.2-m)])).filter nzB=r at *
  have hr':r.Perm (((x.1,x.2+min (-x.2) z.2)::(z.1,z.2-min (-x.2) z.2)::mid).filter fun p=>!decide (p.2=0)):=by rw[hnn];exact hr
  have hok:=qxZ hD hpx hb hr'
  have hDr:DOk r:=by
   rcases hok with ⟨h,_⟩ | ⟨h,_⟩
   ·rw[h];exact qDo
   ·exact h
  have hrl:r.length≤k∧r.length+1≤d.length:=by
   rcases hok with ⟨h,h'⟩ | ⟨_,h',_⟩
   ·rw[h];simp;omega
   ·omega
  have hAr:AmtB r:=fun p hp=>by
   have:=hr.mem_iff.1 hp
   rw[List.mem_filter,List.mem_cons,List.mem_cons] at this
   rcases this.1 with h | h | h
   ·rw[h];show _≤x.2+m∧x.2+m≤_;omega
   ·rw[h];show _≤z.2-m∧z.2-m≤_;omega
   ·exact hA p (hpx.mem_iff.2 (List.mem_cons_of_mem _ (List.mem_cons_of_mem _ h)))
  obtain ⟨ts,t1,t2,t3⟩:=ih r (out++[(x.1,(z.1,m))]) n' hrl.1 (by omega) hDr hAr (by omega) (by rw[List.length_append,List.length_singleton];omega)
  refine ⟨(x.1,(z.1,m))::ts,?_,fun t ht=>?_,?_⟩
  ·have:=Trs.round d mid r x z ts hpx hb hr' t1
   rwa [hnn] at this
  ·rcases List.mem_cons.1 ht with rfl | ht
   ·show m≤_;omega
   ·exact t2 t ht
  ·rw[show List.append out [(x.1,(z.1,m))]=out++[(x.1,(z.1,m))] from rfl,t3]
   simp
theorem qF6{l:List Int}{a:Nat}(B:Bal l):(dl l a).length≤8:=by
 unfold dl
 rw[List.length_map]
 have:=List.length_filter_le a.testBit (List.range l.length)
 rw[List.length_range] at this
 have:=B.ln
 omega
theorem qKe{l:List Int}{a:Nat}(B:Bal l):AmtB (dl l a):=fun p hp=>by
 obtain ⟨i,rfl,h1,h2⟩:=qqL hp
 show _≤(l[i]?).getD 0∧(l[i]?).getD 0≤_
 rw[List.getElem?_eq_getElem h1]
 exact B.bd _ (List.getElem_mem h1)
theorem qCa(n:Nat)(l:List Int)(B:Bal l)(hn:2000≤n)(a:Nat)(ha:a<256)(hi:InL l a)(hD:DOk (dl l a)):∃ts,Trs (dl l a) ts∧(∀t,t∈ts→t.2.2≤1000000000)∧qjx n (l,((a:Int),()))=some (ts,()):=by
 have h8:=qF6 (a:=a) B
 obtain ⟨ts,t1,t2,t3⟩:=qHN n hn 8 (dl l a) [] n h8 (by omega) hD (qKe B) (by omega) (by simp;omega)
 refine ⟨ts,t1,t2,?_⟩
 rw[qqI]
 have h0:=qJi n l [] a a [] n (Nat.le_refl _) ha hi (by omega) (by simp;omega)
 rw[List.nil_append] at h0 t3
 simp only[h0,Option.bind_some,t3]
theorem qJj(n:Nat)(l:List Int)(B:Bal l)(hn:2000≤n)(F:List Nat)(hF:F.length<256)(hok:∀a,a∈F→a<256∧InL l a∧DOk (dl l a)∧1≤(dl l a).length):∀(Y A:List Nat) (out:List Stay) (n':Nat),F=A++Y→Y.length<n'→out.length≤8*A.length →
  ∃us,TrsAll l Y us∧(∀t,t∈us→t.2.2≤1000000000)∧qb n' (qlP n) (l,(qhN F,((F.length:Int),((A.length:Int),(out,())))))=some (out++us,()):=by
 intro Y
 induction Y with
 | nil =>
  intro A out n' e hn' ho
  obtain ⟨n',rfl⟩:∃j,n'=j+1:=⟨n'-1,by simp at hn';omega⟩
  rw[List.append_nil] at e
  refine ⟨[],.nil,fun t ht=>absurd ht List.not_mem_nil,?_⟩
  rw[← e,qc,qpK]
  simp only[qB,cond_false,List.append_nil]
 | cons a Y ih =>
  intro A out n' e hn' ho
  obtain ⟨n',rfl⟩:∃j,n'=j+1:=⟨n'-1,by simp at hn';omega⟩
  have hlen:F.length=A.length+(Y.length+1):=by rw[e,List.length_append,List.length_cons]
  obtain ⟨a1,a2,a3,a4⟩:=hok a (by rw[e];simp)
  obtain ⟨ts,t1,t2,t3⟩:=qCa n l B hn a a1 a2 a3
  have hl:=qDn t1 a3 a4
  have h8:=qF6 (a:=a) B
  have hlat:lat (qhN F) (A.length:Int)=some (a:Int):=by
   rw[e]
   unfold qhN
   rw[List.map_append,List.map_cons]
   exact latA _ _ _ (by rw[List.length_map])
  rw[qc,qpK]
  simp only[qv (show A.length<F.length by omega),cond_true,hlat,Option.bind_some,t3]
  rw[qcC (show Nat.ble (nAdd out.length ts.length) 5864062014805=true by rw[Nat.ble_eq];unfold nAdd;omega)]
  simp only[Option.bind_some,qi (show A.length<9223372036854775807 by omega)]
  obtain ⟨us,u1,u2,u3⟩:=ih (A++[a]) (out++ts) n' (by rw[e];simp) (by simp at hn';omega) (by rw[List.length_append,List.length_append,List.length_singleton];omega)
  rw[show (A++[a]).length=A.length+1 by simp] at u3
  refine ⟨ts++us,.cons a Y ts us t1 u1,fun t ht=>?_,?_⟩
  ·rcases List.mem_append.1 ht with h | h
   ·exact t2 t h
   ·exact u2 t h
  ·rw[show List.append out ts=out++ts from rfl,u3,List.append_assoc]
theorem qF7(l:List Int):sm l (qf4 l)=l.sum:=by
 have h:∀l:List Int,l.sum=((List.range l.length).map fun i=>(l[i]?).getD 0).sum:=by
  intro l
  induction l with
  | nil=>rfl
  | cons x l ih =>
   rw[List.length_cons,List.range_succ_eq_map,List.map_cons,List.sum_cons,List.sum_cons,List.map_map,ih]
   rfl
 unfold sm
 rw[qwk,h l]
 refine congrArg List.sum (List.map_congr_left fun i hi=>?_)
 rw[qsf,decide_eq_true (List.mem_range.1 hi)]
 by_cases h0:(l[i]?).getD 0=0
 ·rw[h0];simp
 ·rw[decide_eq_false h0];rfl
theorem qDs(l:List Int):card l.length (qf4 l)=qla l:=by
 unfold card qla
 rw[List.filter_congr fun i hi=>by
  rw[qsf,decide_eq_true (List.mem_range.1 hi),Bool.true_and]]
theorem qKf{l:List Int}{a:Nat}(ha:a<256)(h0:a≠0)(hi:InL l a):1≤(dl l a).length:=by
 rw[qF5 ha h0 hi,List.length_cons];omega
structure SetOk (l:List Int) (us:List Stay) (r:Nat):Prop where
 mx:IsMax (Zs l) (qf4 l) r
 ln:us.length+r=qla l
 zr:∀x,x∈us.foldl pay1 l→x=0
 ok:us.all (trOk l.length)=true
 n8:us.length≤8
theorem qF8(n:Nat)(l:List Int)(hn:2000≤n)(h:balB l=true):∃us r,qk7 n (l,())=some (us,(0,()))∧SetOk l us r:=by
 obtain ⟨B,hs⟩:=qzF h
 have hm:=qKL B
 obtain ⟨F,g1,g2,g3⟩:=qF1 n l B hn (qf4 l) hm (qIf l) (by rw[qF7,hs])
 have hbit:∀i,(qf4 l).testBit i=true→i<l.length∧(l[i]?).getD 0≠0:=fun i hi=>by
  rw[qsf,Bool.and_eq_true,decide_eq_true_eq] at hi
  exact ⟨hi.1,by simpa using hi.2⟩
 have hok:∀a,a∈F→a<256∧InL l a∧DOk (dl l a)∧1≤(dl l a).length:=fun a ha=>by
  obtain ⟨a1,a2,a3,_⟩:=g2.sub ha
  have hle:=Nat.and_le_right (n:=a) (m:=qf4 l)
  have ha':a<256:=by omega
  have hi:=(qIf l).sub a2
  exact ⟨ha',hi,qKI g3 g2 hbit ha,qKf ha' a1 hi⟩
 have hFl:=g2.len
 obtain ⟨us,u1,u2,u3⟩:=qJj n l B hn F (by omega) hok F [] [] n rfl (by omega) (Nat.zero_le _)
 rw[List.nil_append] at u3
 obtain ⟨v1,v2,v3,v4,v5⟩:=qFW u1 (qf4 l) g2 (fun a ha=>⟨(hok a ha).2.2.1,(hok a ha).2.2.2,(hok a ha).2.1⟩) l rfl fun i _=>rfl
 rw[qDs] at v1
 refine ⟨us,F.length,?_,g3,v1,fun x hx=>?_,?_,?_⟩
 ·rw[qwZ,qF2 n l hn,h]
  simp only[cond_true,Option.bind_some,show iNe (0:Int) 0=false from rfl,cond_false,qHK n l B hn,g1]
  have u3':qb n (qlP n) (l,(qhN F,(((qhN F).length:Int),((0:Int),(([]:List Stay),())))))=some (us,()):=by rw[qAq];exact u3
  rw[u3']
  rfl
 ·obtain ⟨i,hi,rfl⟩:=List.mem_iff_getElem.1 hx
  have hil:i<l.length:=by rw[v2] at hi;exact hi
  have hg:((us.foldl pay1 l)[i]?).getD 0=(us.foldl pay1 l)[i]:=by rw[List.getElem?_eq_getElem hi];rfl
  rw[← hg]
  cases hb:(qf4 l).testBit i with
  | true=>exact v3 i hb
  | false =>
   rw[v4 i hb]
   rw[qsf,decide_eq_true hil,Bool.true_and] at hb
   simpa using hb
 ·rw[List.all_eq_true]
  intro t ht
  obtain ⟨⟨p1,p2⟩,⟨p3,p4⟩,p5,p6⟩:=v5 t ht
  unfold trOk
  simp only[Bool.and_eq_true,q7,Bool.not_eq_true']
  refine ⟨by omega,by omega,by simp[iEq,p5],p6,?_⟩
  have:=u2 t ht
  omega
 ·have:qla l≤8:=by have:=qB7 l;have:=B.ln;omega
  omega
set_option maxRecDepth 100000
theorem qF9(n:Nat)(l:List Int){us:List Stay}{e:Int}(h:qk7 n (l,())=some (us,(e,()))):qqb n (l,())=some ((us.length:Int),(e,())):=by
 rw[qw0,h];rfl
theorem SetOk.settles{n:Nat}{l:List Int}{us:List Stay}{r:Nat}(S:SetOk l us r)(h:balB l=true)(hn:2000≤n):qhL n (l,(us,()))=some (true,()):=by
 obtain ⟨B,hs⟩:=qzF h
 have h8:=B.ln
 have h9:=S.n8
 rw[qAE n l us (by omega) (by omega) B.bd hn,S.ok]
 have:((us.foldl pay1 l).all fun x=>decide (x=0))=true:=List.all_eq_true.2 fun x hx=>decide_eq_true (S.zr x hx)
 rw[this];rfl
theorem SetOk.r1{l:List Int}{us:List Stay}{r:Nat}(S:SetOk l us r)(h:balB l=true):(qla l=0→r=0)∧(0<qla l→1≤r∧1≤us.length):=by
 obtain ⟨B,hs⟩:=qzF h
 constructor
 ·intro h0;have:=S.ln;omega
 ·intro h0
  constructor
  ·refine Nat.le_of_not_lt fun hr=>?_
   have hr0:r=0:=by omega
   have hm0:qf4 l≠0:=fun e=>by
    have:=qDs l
    rw[e] at this
    unfold card at this
    rw[List.filter_eq_nil_iff.2 fun i _=>by rw[Nat.zero_testBit];decide] at this
    simp at this
    omega
   have:=S.mx.2 [qf4 l] ⟨hm0,Nat.and_self _,(by show sm l (qf4 l)=0;rw[qF7,hs]),by show qf4 l ^^^ qf4 l=0;exact Nat.xor_self _⟩
   simp at this
   omega
  ·refine Nat.le_of_not_lt fun hu=>?_
   have:us=[]:=List.eq_nil_of_length_eq_zero (by omega)
   have hz:=S.zr
   rw[this] at hz
   have hz:∀x,x∈l→x=0:=hz
   have:qla l=0:=by
    unfold qla
    rw[List.filter_eq_nil_iff.2 fun i hi=>by
     have hi:=List.mem_range.1 hi
     rw[List.getElem?_eq_getElem hi]
     have:=hz _ (List.getElem_mem hi)
     show ¬(!decide (l[i]=0))=true
     rw[this];decide]
    rfl
   omega
end Go.Proofs.YtcjcacbhkoainaaGreatDoor
