/- Clubs: DeleteFunc leaves the debts that are not 0. -/
import Derived.Test.YtcjcacbhkoainaaGreatDoorDv14
set_option linter.constructorNameAsVariable false
set_option linter.unusedSimpArgs false
set_option linter.unusedVariables false
set_option linter.unusedSectionVars false
namespace Go.Proofs.YtcjcacbhkoainaaGreatDoor
open Go Go.Proofs Go.RowKit
set_option maxHeartbeats 1000000
def nzB(p:Debt):Bool:=!decide (p.2=0)
theorem qww(n:Nat)(p:Debt):qdv n (p,())=some (!nzB p,()):=by
 rw[qjR]
 unfold nzB
 by_cases h:p.2=0
 ·rw[decide_eq_true h];simp only[qpv h];rfl
 ·rw[decide_eq_false h]
  show some (iEq p.2 0,())=some (false,())
  rw[show iEq p.2 0=false by simp[iEq,h]]
theorem qzc(n:Nat)(d:List Debt)(hd:d.length<1000):∀(Y A:List Debt) (n':Nat),d=A++Y→A.all nzB=true→Y.length<n' →
  (∃P z R,d=P++z::R∧P.all nzB=true∧nzB z=false∧qg n' (qt n) (((),()),((d.length:Int),((A.length:Int),(d,()))))=some (.inr ((P.length:Int),(d,())))) ∨
  (d.all nzB=true∧qg n' (qt n) (((),()),((d.length:Int),((A.length:Int),(d,()))))=some (.inl (d,()))):=by
 intro Y
 induction Y with
 | nil =>
  intro A n' e hA hn
  obtain ⟨n',rfl⟩:∃j,n'=j+1:=⟨n'-1,by simp at hn;omega⟩
  rw[List.append_nil] at e
  right
  refine ⟨by rw[e];exact hA,?_⟩
  rw[qw,qbJ]
  simp only[show iLt (A.length:Int) (d.length:Int)=false from decide_eq_false (by rw[e];omega),cond_false]
 | cons x Y ih =>
  intro A n' e hA hn
  obtain ⟨n',rfl⟩:∃j,n'=j+1:=⟨n'-1,by simp at hn;omega⟩
  have hlen:d.length=A.length+(Y.length+1):=by rw[e,List.length_append,List.length_cons]
  have e1:lat d (A.length:Int)=some x:=by rw[e];exact latA A Y x rfl
  have e2:d[A.length]?=some x:=by rw[e];exact getA A Y x rfl
  rw[qw,qbJ]
  simp only[show iLt (A.length:Int) (d.length:Int)=true from decide_eq_true (by omega),cond_true,e1,Option.bind_some,Int.toNat_natCast,e2,qww,qcH (show A.length<9223372036854775807 by omega)]
  cases hx:nzB x with
  | false=>exact .inl ⟨A,x,Y,e,hA,hx,rfl⟩
  | true =>
   have:=ih (A++[x]) n' (by rw[e];simp) (by rw[List.all_append,hA];simp[hx]) (by simp at hn;omega)
   rw[List.length_append] at this
   exact this
theorem qyI(n:Nat):∀(Y P R:List Debt) (n':Nat),R≠[]→P.length+R.length+Y.length<1000→Y.length<n' →
  ∃R',qg n' (qbh n) (((),()),((P.length:Int),(((P.length+R.length:Nat):Int),(P++R++Y,()))))=some (((P++Y.filter nzB).length:Int),(P++Y.filter nzB++R',()))∧(P++Y.filter nzB).length+R'.length=P.length+R.length+Y.length:=by
 intro Y
 induction Y with
 | nil =>
  intro P R n' hR hl hn
  obtain ⟨n',rfl⟩:∃j,n'=j+1:=⟨n'-1,by simp at hn;omega⟩
  refine ⟨R,?_,by simp⟩
  rw[qw,qbQ]
  simp only[List.append_nil,show iLt ((P.length+R.length:Nat):Int) ((P++R).length:Int)=false from decide_eq_false (by rw[List.length_append];omega),cond_false,List.filter_nil]
 | cons y Y ih =>
  intro P R n' hR hl hn
  obtain ⟨n',rfl⟩:∃j,n'=j+1:=⟨n'-1,by simp at hn;omega⟩
  simp only[List.length_cons] at hl hn
  rw[qw,qbQ]
  have hpr:(P++R).length=P.length+R.length:=List.length_append ..
  have e1:lat (P++R++y::Y) ((P.length+R.length:Nat):Int)=some y:=latA (P++R) Y y hpr
  have e2:(P++R++y::Y)[P.length+R.length]?=some y:=getA (P++R) Y y hpr
  have hlt:iLt ((P.length+R.length:Nat):Int) ((P++R++y::Y).length:Int)=true:=decide_eq_true (by rw[List.length_append,hpr,List.length_cons];omega)
  simp only[hlt,cond_true,e1,Option.bind_some,Int.toNat_natCast,e2,qww,Bool.not_not]
  have hs2:iW (iAdd ((P.length+R.length:Nat):Int) 1)=((P.length+R.length+1:Nat):Int):=qcH (by omega)
  rw[hs2]
  cases hy:nzB y with
  | false =>
   simp only[cond_false]
   obtain ⟨R',h1,h2⟩:=ih P (R++[y]) n' (by simp) (by simp;omega) (by omega)
   rw[List.length_append,List.length_singleton] at h1
   rw[show P++(R++[y])++Y=P++R++y::Y by simp] at h1
   refine ⟨R',?_,?_⟩
   ·rw[List.filter_cons_of_neg (by rw[hy];decide)];exact h1
   ·rw[List.filter_cons_of_neg (by rw[hy];decide)]
    simp only[List.length_append,List.length_cons,List.length_nil] at h2 ⊢;omega
  | true =>
   obtain ⟨r,R0,rfl⟩:∃r R0,R=r::R0:=by cases R with
    | nil=>exact absurd rfl hR
    | cons r R0=>exact ⟨r,R0,rfl⟩
   have hsh:P++r::R0++y::Y=P++r::(R0++y::Y):=by simp
   have e3:lat (P++r::R0++y::Y) (P.length:Int)=some r:=by rw[hsh];exact latA P _ r rfl
   have e4:(P++r::R0++y::Y)[P.length]?=some r:=by rw[hsh];exact getA P _ r rfl
   have e5:(P++r::R0++y::Y).set P.length y=(P++[y])++(R0++[y])++Y:=by rw[hsh,qtF P _ r y rfl];simp
   simp only[cond_true,e3,e4,Option.bind_some,qcH (show P.length<9223372036854775807 by omega)]
   rw[e5]
   obtain ⟨R',h1,h2⟩:=ih (P++[y]) (R0++[y]) n' (by simp) (by simp at hl ⊢;omega) (by omega)
   rw[show (P++[y]).length=P.length+1 by simp,show P.length+1+(R0++[y]).length=P.length+(r::R0).length+1 by simp;omega] at h1
   refine ⟨R',?_,?_⟩
   ·rw[List.filter_cons_of_pos hy,show P++y::Y.filter nzB=P++[y]++Y.filter nzB by simp];exact h1
   ·rw[List.filter_cons_of_pos hy]
    simp only[List.length_append,List.length_cons,List.length_nil] at h2 ⊢;omega
theorem qtG{len k:Nat}(h:k≤len):cutO len (k:Int)=some k:=by
 unfold cutO
 rw[if_pos ⟨by omega,by omega⟩,Int.toNat_natCast]
theorem qvf(n:Nat)(d:List Debt)(hd:d.length<1000)(hn:2000≤n):∃X k,qbn n (((),()),(d,()))=some (X,((0,k),()))∧k≤X.length∧X.take k=d.filter nzB:=by
 rw[qd3,qdJ]
 rcases qzc n d hd d [] n rfl rfl (by omega) with ⟨P,z,R,e,h1,h2,h3⟩ | ⟨h1,h2⟩
 ·have h3':qg n (qt n) (((),()),((d.length:Int),((0:Int),(d,()))))=_:=h3
  simp only[h3',Option.bind_some,Sum.elim_inr]
  have hne:iEq (P.length:Int) (Int.negSucc 0)=false:=by simp[iEq]
  have hPl:P.length+1+R.length=d.length:=by rw[e];simp;omega
  obtain ⟨R',h4,h5⟩:=qyI n R P [z] n (by simp) (by simp;omega) (by omega)
  rw[show P++[z]++R=d by rw[e];simp,List.length_singleton] at h4
  simp only[hne,cond_false,qcH (show P.length<9223372036854775807 by omega),h4,Option.bind_some]
  have hf:d.filter nzB=P++R.filter nzB:=by
   rw[e,List.filter_append,List.filter_cons_of_neg (by rw[h2];decide),List.filter_eq_self.2 fun x hx=>List.all_eq_true.1 h1 x hx]
  rw[hf]
  generalize P++R.filter nzB=Q at *
  have hk:Q.length≤(Q++R').length:=by rw[List.length_append];omega
  rw[qtG hk]
  simp only[Option.bind_some]
  rw[qil (show Nat.ble (Q.length+((Q++R').length-Q.length)) (Q++R').length=true by rw[Nat.ble_eq];omega)]
  simp only[Option.bind_some]
  have hX:List.append (List.append (List.take Q.length (Q++R')) (List.replicate ((Q++R').length-Q.length) ((0:Int),(0:Int)))) (List.drop (nAdd Q.length ((Q++R').length-Q.length)) (Q++R'))=Q++(List.replicate ((Q++R').length-Q.length) ((0:Int),(0:Int))++List.drop (nAdd Q.length ((Q++R').length-Q.length)) (Q++R')):=by
   rw[List.take_left]
   show (Q++_)++_=_
   rw[List.append_assoc]
  rw[hX]
  generalize (List.replicate ((Q++R').length-Q.length) ((0:Int),(0:Int))++List.drop (nAdd Q.length ((Q++R').length-Q.length)) (Q++R'))=Z
  rw[qtG (show Q.length≤(Q++Z).length by rw[List.length_append];omega)]
  exact ⟨_,_,rfl,by rw[List.length_append];omega,List.take_left⟩
 ·have h2':qg n (qt n) (((),()),((d.length:Int),((0:Int),(d,()))))=_:=h2
  simp only[h2',Option.bind_some,Sum.elim_inl]
  refine ⟨d,d.length,rfl,Nat.le_refl _,?_⟩
  rw[List.take_length,List.filter_eq_self.2 fun x hx=>List.all_eq_true.1 h1 x hx]
end Go.Proofs.YtcjcacbhkoainaaGreatDoor
