/- Clubs: the stable sort of at most 8 debts. -/
import Derived.Test.YtcjcacbhkoainaaGreatDoorDv13
set_option linter.constructorNameAsVariable false
set_option linter.unusedSimpArgs false
set_option linter.unusedVariables false
set_option linter.unusedSectionVars false
namespace Go.Proofs.YtcjcacbhkoainaaGreatDoor
open Go Go.Proofs Go.RowKit
set_option maxHeartbeats 1000000
def insD(v:Debt):List Debt→List Debt
 | []=>[v]
 | x::Q=>if v.2<x.2 then x::insD v Q else v::x::Q
theorem quC{v x:Debt}{Q:List Debt}(h:v.2<x.2):insD v (x::Q)=x::insD v Q:=if_pos h
theorem quD{v x:Debt}{Q:List Debt}(h:¬v.2<x.2):insD v (x::Q)=v::x::Q:=if_neg h
theorem qms(v:Debt):∀Q:List Debt,(insD v Q).Perm (v::Q)
 | []=>List.Perm.refl _
 | x::Q=>by
  unfold insD
  split
  ·exact ((qms v Q).cons x).trans (List.Perm.swap _ _ _)
  ·exact List.Perm.refl _
theorem qpZ{v:Debt}:∀{Q:List Debt},Q.Pairwise (fun x y=>y.2≤x.2)→(insD v Q).Pairwise (fun x y=>y.2≤x.2)
 | [],_=>List.pairwise_singleton _ _
 | x::Q,h=>by
  rw[List.pairwise_cons] at h
  by_cases hlt:v.2<x.2
  ·rw[quC hlt,List.pairwise_cons]
   refine ⟨fun y hy=>?_,qpZ h.2⟩
   rcases List.mem_cons.1 ((qms v Q).mem_iff.1 hy) with rfl | hy
   ·omega
   ·exact h.1 y hy
  ·rw[quD hlt,List.pairwise_cons,List.pairwise_cons]
   refine ⟨fun y hy=>?_,h.1,h.2⟩
   rcases List.mem_cons.1 hy with rfl | hy
   ·omega
   ·have:=h.1 y hy;omega
def qls(Q B:List Debt):List Debt:=B.foldl (fun Q v=>insD v Q) Q
theorem qro:∀(B Q:List Debt),(qls Q B).Perm (Q++B)
 | [],Q=>by unfold qls;simp
 | v::B,Q=>by
  have:=qro B (insD v Q)
  refine this.trans ?_
  refine (List.Perm.append_right B (qms v Q)).trans ?_
  exact (List.perm_middle).symm
theorem qpe:∀(B:List Debt) {Q:List Debt},Q.Pairwise (fun x y=>y.2≤x.2)→(qls Q B).Pairwise (fun x y=>y.2≤x.2)
 | [],_,h=>h
 | v::B,Q,h=>qpe B (Q:=insD v Q) (qpZ h)
theorem qxH(n:Nat)(x y:Debt):qk3 n (x,(y,()))=some (cmpI x.2 y.2,()):=by
 rw[qqu]
 simp only[qyx,Option.bind_some]
theorem qza(n:Nat)(b i:Int)(v:Debt):∀(Q B:List Debt) (m:Nat),Q.length<1000→Q.length<m →
  qg m (qbq n) ((0:Int),(b,(((),()),(i,((Q.length:Int),(Q.reverse++v::B,()))))))=some ((0:Int),(b,(((),()),(i,((insD v Q).reverse++B,()))))):=by
 intro Q
 induction Q with
 | nil =>
  intro B m hl0 hm
  obtain ⟨m,rfl⟩:∃j,m=j+1:=⟨m-1,by simp at hm;omega⟩
  rw[qw,qbY]
  rfl
 | cons x Q ih =>
  intro B m hl0 hm
  obtain ⟨m,rfl⟩:∃j,m=j+1:=⟨m-1,by simp at hm;omega⟩
  simp only[List.length_cons] at hl0 hm
  rw[qw,qbY]
  have hd0:(x::Q).reverse++v::B=Q.reverse++x::v::B:=by simp
  have hd1:(x::Q).reverse++v::B=(Q.reverse++[x])++v::B:=by simp
  have hQ:Q.reverse.length=Q.length:=List.length_reverse
  have hQ1:(Q.reverse++[x]).length=Q.length+1:=by simp
  have e1:lat ((x::Q).reverse++v::B) ((Q.length+1:Nat):Int)=some v:=by rw[hd1];exact latA _ _ _ hQ1
  have e2:lat ((x::Q).reverse++v::B) (Q.length:Int)=some x:=by rw[hd0];exact latA _ _ _ hQ
  have e3:((x::Q).reverse++v::B)[Q.length+1]?=some v:=by rw[hd1];exact getA _ _ _ hQ1
  have e4:((x::Q).reverse++v::B)[Q.length]?=some x:=by rw[hd0];exact getA _ _ _ hQ
  have e5:((x::Q).reverse++v::B).set (Q.length+1) x=(Q.reverse++[x])++x::B:=by rw[hd1];exact qtF _ _ _ _ hQ1
  have e6:(Q.reverse++[x])++x::B=Q.reverse++x::x::B:=by simp
  have hpos:iGt ((Q.length+1:Nat):Int) 0=true:=decide_eq_true (by omega)
  simp only[List.length_cons,hpos,cond_true,quv (show Q.length<9223372036854775807 by omega),e1,e2,e3,e4,Option.bind_some,Int.toNat_natCast,qxH,qyB]
  by_cases hlt:v.2<x.2
  ·rw[show decide (v.2<x.2)=true from decide_eq_true hlt]
   simp only[cond_true,e5]
   rw[e6]
   simp only[latA _ _ _ hQ,getA _ _ _ hQ,qtF _ _ _ _ hQ,Option.bind_some]
   have:=ih (x::B) m (by omega) (by omega)
   rw[this,quC hlt]
   simp
  ·rw[show decide (v.2<x.2)=false from decide_eq_false hlt]
   simp only[cond_false]
   rw[quD hlt]
   simp
theorem qzb(n:Nat)(L:Nat)(hL:L<1000)(hn:2000≤n):∀(B Q:List Debt) (m:Nat),Q.length+B.length=L→B.length<m →
  qg m (qQ n) ((0:Int),((L:Int),(((),()),((Q.length:Int),(Q.reverse++B,())))))=some ((qls Q B).reverse,()):=by
 intro B
 induction B with
 | nil =>
  intro Q m hk hm
  obtain ⟨m,rfl⟩:∃j,m=j+1:=⟨m-1,by simp at hm;omega⟩
  rw[qw,qbi]
  simp only[show iLt (Q.length:Int) (L:Int)=false from decide_eq_false (by simp at hk;omega),cond_false,List.append_nil]
  rfl
 | cons v B ih =>
  intro Q m hk hm
  obtain ⟨m,rfl⟩:∃j,m=j+1:=⟨m-1,by simp at hm;omega⟩
  simp only[List.length_cons] at hk hm
  rw[qw,qbi]
  have h1:=qza n (L:Int) (Q.length:Int) v Q B n (by omega) (by omega)
  simp only[show iLt (Q.length:Int) (L:Int)=true from decide_eq_true (by omega),cond_true,h1,Option.bind_some,qcH (show Q.length<9223372036854775807 by omega)]
  have hp:=qms v Q
  have hlen:(insD v Q).length=Q.length+1:=by rw[hp.length_eq];simp
  have:=ih (insD v Q) m (by omega) (by omega)
  rw[hlen] at this
  exact this
theorem qxI(n:Nat)(d:List Debt)(hdl:d.length<20)(hn:2000≤n):qbN n (((),()),(d,()))=some ((qls [] d).reverse,()):=by
 have h3:qg n (qQ n) ((0:Int),((d.length:Int),(((),()),(((1:Nat):Int),(d,())))))=some ((qls [] d).reverse,()):=by
  cases d with
  | nil =>
   obtain ⟨m,rfl⟩:∃m,n=m+1:=⟨n-1,by omega⟩
   rw[qw,qbi]
   rfl
  | cons x d=>exact qzb n (d.length+1) (by simp at hdl;omega) hn d [x] n (by simp;omega) (by simp at hdl;omega)
 obtain ⟨n,rfl⟩:∃m,n=m+1:=⟨n-1,by omega⟩
 rw[qfy,qfQ]
 simp only[qw]
 rw[qfh]
 simp only[show iLe (20:Int) (d.length:Int)=false from decide_eq_false (by omega),cond_false,Option.bind_some,qew]
 rw[show iW (iAdd (0:Int) 1)=((1:Nat):Int) from rfl,h3]
 simp only[Option.bind_some]
 rw[qfi]
 simp only[show iLt (20:Int) (d.length:Int)=false from decide_eq_false (by omega),cond_false,Option.bind_some]
end Go.Proofs.YtcjcacbhkoainaaGreatDoor
