/- Clubs: which balances are valid, by the program and by the reference. -/
import Derived.Test.YtcjcacbhkoainaaGreatDoorDv11
set_option linter.constructorNameAsVariable false
set_option linter.unusedSimpArgs false
set_option linter.unusedVariables false
set_option linter.unusedSectionVars false
namespace Go.Proofs.YtcjcacbhkoainaaGreatDoor
open Go Go.Proofs Go.RowKit
set_option maxHeartbeats 1000000
def balB(l:List Int):Bool:=decide (l.length≤8)&&(l.all (fun x=>wi x (-1000000000) 1000000000)&&decide (l.sum=0))
theorem qnn{l:List Int}(h:balB l=true):Bal l∧l.sum=0:=by
 unfold balB at h
 simp only[Bool.and_eq_true,decide_eq_true_eq,List.all_eq_true,qjf] at h
 exact ⟨⟨h.1,h.2.1⟩,h.2.2⟩
theorem qy9(n:Nat)(l:List Int)(h8:l.length≤8):∀(Y A:List Int) (n':Nat) (acc:Int),l=A++Y→Y.length<n'→-(1000000000*(A.length:Int))≤acc→acc≤1000000000*(A.length:Int) →
  qg n' (qjD n) (l,(acc,(l,((l.length:Int),((A.length:Int),())))))=some (cond (Y.all fun x=>wi x (-1000000000) 1000000000) (.inl (l,(acc+Y.sum,()))) (.inr ([],(111,())))):=by
 intro Y
 induction Y with
 | nil =>
  intro A n' acc e hn h1 h2
  obtain ⟨n',rfl⟩:∃j,n'=j+1:=⟨n'-1,by simp at hn;omega⟩
  rw[List.append_nil] at e
  rw[← e,qw,qkI]
  simp only[qg3,cond_false]
  simp
 | cons x Y ih =>
  intro A n' acc e hn h1 h2
  obtain ⟨n',rfl⟩:∃j,n'=j+1:=⟨n'-1,by simp at hn;omega⟩
  have hlen:l.length=A.length+(Y.length+1):=by rw[e,List.length_append,List.length_cons]
  have hlt:A.length<l.length:=by omega
  have hlat:lat l (A.length:Int)=some x:=by rw[e];exact latA A Y x rfl
  rw[qw,qkI]
  simp only[qg2 hlt,cond_true,hlat,Option.bind_some,qrm,qcH (show A.length<9223372036854775807 by omega)]
  rw[show Int.negSucc 999999999=(-1000000000:Int) from rfl,List.all_cons]
  cases hw:wi x (-1000000000) 1000000000 with
  | false=>rfl
  | true =>
   have hx:=qjf.1 hw
   simp only[Bool.not_true,cond_false,Bool.true_and]
   rw[show iW (iAdd acc x)=acc+x from qgM (by unfold iAdd;omega) (by unfold iAdd;omega)]
   have:=ih (A++[x]) n' (acc+x) (by rw[e];simp) (by simp at hn;omega) (by rw[List.length_append];simp;omega) (by rw[List.length_append];simp;omega)
   rw[List.length_append] at this
   rw[List.sum_cons,← Int.add_assoc]
   exact this
theorem qsq(n:Nat)(l:List Int)(hn:2000≤n):qk2 n (l,())=some (cond (balB l) (l,(0,())) ([],(111,()))):=by
 rw[qqt]
 unfold balB
 by_cases h8:l.length≤8
 ·have:=qy9 n l h8 l [] n 0 rfl (by omega) (by simp) (by simp)
  rw[show iGt (l.length:Int) 8=false from decide_eq_false (by omega),decide_eq_true h8]
  simp only[cond_false,Bool.true_and]
  show Option.bind (qg n _ (l,((0:Int),(l,((l.length:Int),((([]:List Int).length:Int),())))))) _=_
  rw[this,Int.zero_add]
  cases l.all fun x=>wi x (-1000000000) 1000000000 with
  | false=>rfl
  | true =>
   by_cases hs:l.sum=0
   ·simp only[cond_true,Option.bind_some,Sum.elim_inl,qiy hs,cond_false,Bool.true_and,decide_eq_true hs]
   ·simp only[cond_true,Option.bind_some,Sum.elim_inl,qkw hs,Bool.true_and,decide_eq_false hs,cond_false]
 ·rw[show iGt (l.length:Int) 8=true from decide_eq_true (by omega),decide_eq_false h8]
  rfl
theorem qyG(n:Nat)(l:List Int)(h8:l.length≤8):∀(Y A:List Int) (n':Nat) (acc:Int),l=A++Y→Y.length<n'→-(1000000000*(A.length:Int))≤acc→acc≤1000000000*(A.length:Int) →
  qg n' (qek n) (l,(acc,((A.length:Int),())))=some (cond (Y.all fun x=>wi x (-1000000000) 1000000000) (.inl (acc+Y.sum,())) (.inr (false,()))):=by
 intro Y
 induction Y with
 | nil =>
  intro A n' acc e hn h1 h2
  obtain ⟨n',rfl⟩:∃j,n'=j+1:=⟨n'-1,by simp at hn;omega⟩
  rw[List.append_nil] at e
  rw[← e,qw,qf2]
  simp only[qg3,cond_false]
  simp
 | cons x Y ih =>
  intro A n' acc e hn h1 h2
  obtain ⟨n',rfl⟩:∃j,n'=j+1:=⟨n'-1,by simp at hn;omega⟩
  have hlen:l.length=A.length+(Y.length+1):=by rw[e,List.length_append,List.length_cons]
  have hlt:A.length<l.length:=by omega
  have hlat:lat l (A.length:Int)=some x:=by rw[e];exact latA A Y x rfl
  rw[qw,qf2]
  simp only[qg2 hlt,cond_true,hlat,Option.bind_some,qpY,qcH (show A.length<9223372036854775807 by omega)]
  rw[show Int.negSucc 999999999=(-1000000000:Int) from rfl,List.all_cons]
  cases hw:wi x (-1000000000) 1000000000 with
  | false=>rfl
  | true =>
   have hx:=qjf.1 hw
   simp only[Bool.not_true,cond_false,Bool.true_and]
   rw[show iW (iAdd acc x)=acc+x from qgM (by unfold iAdd;omega) (by unfold iAdd;omega)]
   have:=ih (A++[x]) n' (acc+x) (by rw[e];simp) (by simp at hn;omega) (by rw[List.length_append];simp;omega) (by rw[List.length_append];simp;omega)
   rw[List.length_append] at this
   rw[List.sum_cons,← Int.add_assoc]
   exact this
theorem qpd(n:Nat)(l:List Int)(hn:2000≤n):qdw n (l,())=some (balB l,()):=by
 rw[qjS]
 unfold balB
 by_cases h8:l.length≤8
 ·have:=qyG n l h8 l [] n 0 rfl (by omega) (by simp) (by simp)
  rw[show iGt (l.length:Int) 8=false from decide_eq_false (by omega),decide_eq_true h8]
  simp only[cond_false,Bool.true_and]
  show Option.bind (qg n _ (l,((0:Int),((([]:List Int).length:Int),())))) _=_
  rw[this,Int.zero_add]
  cases l.all fun x=>wi x (-1000000000) 1000000000 with
  | false=>rfl
  | true =>
   by_cases hs:l.sum=0
   ·simp only[cond_true,Option.bind_some,Sum.elim_inl,Bool.true_and,decide_eq_true hs,qpv hs]
   ·simp only[cond_true,Option.bind_some,Sum.elim_inl,Bool.true_and,decide_eq_false hs,show iEq l.sum 0=false by simp[iEq,hs]]
 ·rw[show iGt (l.length:Int) 8=true from decide_eq_true (by omega),decide_eq_false h8]
  rfl
end Go.Proofs.YtcjcacbhkoainaaGreatDoor
